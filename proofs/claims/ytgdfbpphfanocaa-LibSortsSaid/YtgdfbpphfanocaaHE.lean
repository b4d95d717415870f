/- The sorted list: Insert, Remove, Items, New, of both. -/
import Derived.Test.YtgdfbpphfanocaaHD
set_option linter.unusedVariables false
set_option linter.unusedSimpArgs false
namespace Go.Proofs.Ytgdfbpphfanocaa
open Go.RowKit Fw
namespace Lb
open Lc (wd isWord_wd rword_any rm rm_t isRoom_any rroom_any)
set_option maxRecDepth 20000 in
set_option maxHeartbeats 4000000 in
theorem Insert23_any (l : Nat) (R : Int) (pv : Option Addr) (cp : Nat) (xs : List Int) (x : Int) (w : World) (hB : OwnB w (SB l R pv cp xs)) (hR : 1 ≤ R) (hn : xs.length ≤ 32) (hso : srt xs) :
    Calls Try.prog 37 #[vP l 0, vI x] w fun e w' => ∃ pv' cp', e = .returned (.tuple #[vI (inS R xs x), vI (psE R xs x)]) ∧ HP (Out (SB l R pv cp xs)) w w' (SB l R pv' cp' (inX R xs x)) := by
  obtain ⟨s1, s2, -, -⟩ := s_spec (x := x) hn hso
  obtain ⟨f1, f2⟩ := f_spec (x := x) hn hso
  have hbl := bl_mono 32 (by omega) xs.length (by omega) hn
  have hbl2 : Lib.bitLen 32 = 6 := by decide
  refine calls_of Try.func37 rfl (m := 50) rfl [(0, vP l 0), (1, vI x)] (Fr_enter [vP l 0, vI x] 50 (Nat.le_of_ble_eq_true rfl)) ?_
  refine WC.seq fun K1 hK1 => ?_
  refine WC.region ?_
  refine WL.alloc (c := #[vI x]) (T := 3) (HP.startB hB) 3 rfl (by decide) rfl rfl (fun bx => vP bx 0) (by kernel_rfl) (fun bx w2 hw2 => ?_)
  have hH3 : HP (Out (SB l R pv cp xs)) w w2 [.cel l #[vI R, .slice pv xs.length cp] 96, .own (.slice pv xs.length cp) xs.length (iL xs) 3 1, .cel bx #[vI x] 3] := hw2.2
  have nbx := hw2.1
  clear hw2
  refine WL.pure (v := vI 0) 4 rfl (Nat.le_of_ble_eq_true rfl) rfl rfl (by kernel_rfl) ?_
  refine WL.pure (v := vI 0) 5 rfl (Nat.le_of_ble_eq_true rfl) rfl rfl (by kernel_rfl) ?_
  refine WL.nil ?_
  refine WQ.then ?_
  refine hK1 _ _ _ ?_
  refine WC.seq fun K4 hK4 => ?_
  refine WC.block ?_
  refine WC.seq fun K5 hK5 => ?_
  refine WC.region ?_
  refine WL.pure (v := vP l 0) 8 rfl (Nat.le_of_ble_eq_true rfl) rfl rfl (by kernel_rfl) ?_
  refine WL.call (f := 65) (args := #[vP l 0]) 9 rfl (Nat.le_of_ble_eq_true rfl) rfl rfl (by kernel_rfl) ?_
  refine (snone_any l R _ (HP.cell hH3 0 rfl rfl) hR).mono ?_
  rintro e w6 ⟨rfl, hb7⟩
  refine ⟨_, rfl, ?_⟩
  have hH8 : HP (Out (SB l R pv cp xs)) w _ [.cel l #[vI R, .slice pv xs.length cp] 96, .own (.slice pv xs.length cp) xs.length (iL xs) 3 1, .cel bx #[vI x] 3] := HP.call hH3 hb7
  refine WL.pure (v := .bool false) 10 rfl (Nat.le_of_ble_eq_true rfl) rfl rfl (by kernel_rfl) ?_
  refine WL.pure (v := vI x) 11 rfl (Nat.le_of_ble_eq_true rfl) rfl rfl (x_load rfl rfl Try.underlying3 rfl (HP.cell hH8 2 rfl rfl)) ?_
  refine WL.call (f := 51) (args := #[vI x]) 12 rfl (Nat.le_of_ble_eq_true rfl) rfl rfl (by kernel_rfl) ?_
  refine (isWord_wd _ _).mono ?_
  rintro e w9 ⟨rfl, rfl⟩
  refine ⟨_, rfl, ?_⟩
  refine WL.pure (v := .bool (!(wd x))) 13 rfl (Nat.le_of_ble_eq_true rfl) rfl rfl (by kernel_rfl) ?_
  refine WL.pure (v := .bool (!(wd x))) 14 rfl (Nat.le_of_ble_eq_true rfl) rfl rfl (by kernel_rfl) ?_
  refine WL.pure (v := .bool (!(wd x))) 7 rfl (Nat.le_of_ble_eq_true rfl) rfl rfl (by kernel_rfl) ?_
  refine WL.nil ?_
  refine WQ.then ?_
  refine hK5 _ _ _ ?_
  refine WC.sub (l' := [(0, vP l 0), (1, vI x), (3, vP bx 0), (4, vI 0), (5, vI 0), (7, .bool (!(wd x)))]) ⟨rfl, rfl, rfl, rfl, rfl, rfl, trivial⟩ ?_
  rcases Bool.eq_false_or_eq_true (wd x) with hwd | hwd
  ·
    refine WC.no (congrArg (fun b => some (Value.bool (!b))) hwd) ?_
    refine WC.seq fun K10 hK10 => ?_
    refine WC.region ?_
    refine WL.pure (v := vP l 0) 16 rfl (Nat.le_of_ble_eq_true rfl) rfl rfl (by kernel_rfl) ?_
    refine WL.pure (v := vP l 0) 17 rfl (Nat.le_of_ble_eq_true rfl) rfl rfl (by kernel_rfl) ?_
    refine WL.pure (v := vP l 0) 18 rfl (Nat.le_of_ble_eq_true rfl) rfl rfl (by kernel_rfl) ?_
    refine WL.call (f := 60) (args := #[vP l 0]) 19 rfl (Nat.le_of_ble_eq_true rfl) rfl rfl (by kernel_rfl) ?_
    refine (full_any l xs.length cp R pv _ (HP.cell hH8 0 rfl rfl) (HP.cell hH8 0 rfl rfl)).mono ?_
    rintro e w11 ⟨rfl, hb12⟩
    refine ⟨_, rfl, ?_⟩
    have hH13 : HP (Out (SB l R pv cp xs)) w _ [.cel l #[vI R, .slice pv xs.length cp] 96, .own (.slice pv xs.length cp) xs.length (iL xs) 3 1, .cel bx #[vI x] 3] := HP.call hH8 hb12
    refine WL.pure (v := .bool (decide (R ≤ (xs.length : Int)))) 15 rfl (Nat.le_of_ble_eq_true rfl) rfl rfl (by kernel_rfl) ?_
    refine WL.nil ?_
    refine WQ.then ?_
    refine hK10 _ _ _ ?_
    rcases Bool.eq_false_or_eq_true (decide (R ≤ (xs.length : Int))) with hfull | hfull
    ·
      refine WC.yes (congrArg (fun b => some (Value.bool b)) hfull) ?_
      refine WC.seq fun K14 hK14 => ?_
      refine WC.region ?_
      refine WL.pure (v := vI 0) 4 rfl (Nat.le_of_ble_eq_true rfl) rfl rfl (by kernel_rfl) ?_
      refine WL.pure (v := vI 14) 5 rfl (Nat.le_of_ble_eq_true rfl) rfl rfl (by kernel_rfl) ?_
      refine WL.nil ?_
      refine WQ.then ?_
      refine hK14 _ _ _ ?_
      refine WC.sub (l' := [(0, vP l 0), (1, vI x), (3, vP bx 0), (4, vI 0), (5, vI 14), (7, .bool (!(wd x))), (15, .bool (decide (R ≤ (xs.length : Int))))]) ⟨rfl, rfl, rfl, rfl, rfl, rfl, rfl, trivial⟩ ?_
      refine WC.ret ?_
      refine WQ.inRet ?_
      refine WQ.thenRet ?_
      refine WQ.ret2 4 5 rfl rfl rfl ?_
      have qe : psE R xs x = 14 := (ps_14 (fr := true) hwd (of_decide_eq_true hfull)).1
      have q := in_no qe (by decide)
      exact ⟨pv, cp, by rw [q.1, qe], by rw [q.2]; exact (HP.drop hH13 2)⟩
    ·
      refine WC.no (congrArg (fun b => some (Value.bool b)) hfull) ?_
      refine WC.skip ?_
      refine WQ.inNormal ?_
      refine WQ.then ?_
      refine hK4 _ _ _ ?_
      refine WC.seq fun K15 hK15 => ?_
      refine WC.region ?_
      refine WL.pure (v := vP l 0) 21 rfl (Nat.le_of_ble_eq_true rfl) rfl rfl (by kernel_rfl) ?_
      refine WL.pure (v := .func (.func 67) #[] #[vP bx 0]) 22 rfl (Nat.le_of_ble_eq_true rfl) rfl rfl (by kernel_rfl) ?_
      refine WL.call (f := 66) (args := #[vP l 0, .func (.func 67) #[] #[vP bx 0]]) 23 rfl (Nat.le_of_ble_eq_true rfl) rfl rfl (by kernel_rfl) ?_
      refine (halve67_any l R pv cp xs x bx _ (HP.cell hH13 0 rfl rfl) (HP.get hH13 1 rfl) hn (HP.cell hH13 2 rfl rfl)).mono ?_
      rintro e w16 ⟨rfl, hb17⟩
      refine ⟨_, rfl, ?_⟩
      have hH18 : HP (Out (SB l R pv cp xs)) w _ [.cel l #[vI R, .slice pv xs.length cp] 96, .own (.slice pv xs.length cp) xs.length (iL xs) 3 1, .cel bx #[vI x] 3] := HP.call hH13 hb17
      refine WL.pure (v := .tuple #[vI (sA xs x : Int), vI (sS xs x : Int)]) 20 rfl (Nat.le_of_ble_eq_true rfl) rfl rfl (by kernel_rfl) ?_
      refine WL.pure (v := vI (sA xs x : Int)) 24 rfl (Nat.le_of_ble_eq_true rfl) rfl rfl (by kernel_rfl) ?_
      refine WL.pure (v := vI (sS xs x : Int)) 25 rfl (Nat.le_of_ble_eq_true rfl) rfl rfl (by kernel_rfl) ?_
      refine WL.pure (v := vI (sA xs x : Int)) 6 rfl (Nat.le_of_ble_eq_true rfl) rfl rfl (by kernel_rfl) ?_
      refine WL.pure (v := vI (sS xs x : Int)) 4 rfl (Nat.le_of_ble_eq_true rfl) rfl rfl (by kernel_rfl) ?_
      refine WL.nil ?_
      refine WQ.then ?_
      refine hK15 _ _ _ ?_
      refine WC.sub (l' := [(0, vP l 0), (1, vI x), (3, vP bx 0), (4, vI (sS xs x : Int)), (5, vI 0), (6, vI (sA xs x : Int)), (7, .bool (!(wd x))), (15, .bool (decide (R ≤ (xs.length : Int))))]) ⟨rfl, rfl, rfl, rfl, rfl, rfl, rfl, rfl, trivial⟩ ?_
      refine WC.seq fun K19 hK19 => ?_
      refine WC.region ?_
      refine WL.pure (v := vI (sS xs x : Int)) 26 rfl (Nat.le_of_ble_eq_true rfl) rfl rfl (by kernel_rfl) ?_
      refine WL.pure (v := vP l 0) 27 rfl (Nat.le_of_ble_eq_true rfl) rfl rfl (by kernel_rfl) ?_
      refine WL.pure (v := vP l 0) 28 rfl (Nat.le_of_ble_eq_true rfl) rfl rfl (by kernel_rfl) ?_
      refine WL.pure (v := vP l 0) 29 rfl (Nat.le_of_ble_eq_true rfl) rfl rfl (by kernel_rfl) ?_
      refine WL.pure (v := vP l 1) 30 rfl (Nat.le_of_ble_eq_true rfl) rfl rfl (by kernel_rfl) ?_
      refine WL.pure (v := .slice pv xs.length cp) 31 rfl (Nat.le_of_ble_eq_true rfl) rfl rfl (x_load rfl rfl Try.underlying58 rfl (HP.cell hH18 0 rfl rfl)) ?_
      refine WL.pure (v := vI (xs.length : Int)) 32 rfl (Nat.le_of_ble_eq_true rfl) rfl rfl (by kernel_rfl) ?_
      refine WL.pure (v := vI (sA xs x : Int)) 33 rfl (Nat.le_of_ble_eq_true rfl) rfl rfl (by kernel_rfl) ?_
      refine WL.pure (v := vI ((xs.length - sA xs x : Nat) : Int)) 34 rfl (Nat.le_of_ble_eq_true rfl) rfl rfl (x_sub (Z := ((xs.length - sA xs x : Nat) : Int)) rfl rfl rfl (by omega) (by omega) (by omega)) ?_
      refine WL.pure (v := vI ((sS xs x : Int) + ((xs.length - sA xs x : Nat) : Int))) 35 rfl (Nat.le_of_ble_eq_true rfl) rfl rfl (x_add (Z := (sS xs x : Int) + ((xs.length - sA xs x : Nat) : Int)) rfl rfl rfl (by omega) (by omega) (by omega)) ?_
      refine WL.pure (v := vI ((sS xs x : Int) + ((xs.length - sA xs x : Nat) : Int))) 4 rfl (Nat.le_of_ble_eq_true rfl) rfl rfl (by kernel_rfl) ?_
      refine WL.nil ?_
      refine WQ.then ?_
      refine hK19 _ _ _ ?_
      refine WC.sub (l' := [(0, vP l 0), (1, vI x), (3, vP bx 0), (4, vI ((sS xs x : Int) + ((xs.length - sA xs x : Nat) : Int))), (5, vI 0), (6, vI (sA xs x : Int)), (7, .bool (!(wd x))), (15, .bool (decide (R ≤ (xs.length : Int))))]) ⟨rfl, rfl, rfl, rfl, rfl, rfl, rfl, rfl, trivial⟩ ?_
      refine WC.seq fun K20 hK20 => ?_
      refine WC.confG (γ := Nat × (Option Addr × Nat)) [(0, vP l 0), (1, vI x), (3, vP bx 0), (4, vI ((sS xs x : Int) + ((xs.length - sA xs x : Nat) : Int))), (5, vI 0), (6, vI (sA xs x : Int)), (7, .bool (!(wd x))), (15, .bool (decide (R ≤ (xs.length : Int))))] (fun y => [vP l 0, vP l 0, vP l 0, vP l 0, vP l 1, (.slice pv xs.length cp), vI (sA xs x : Int), vI x, vS y.1 1 1, (.slice y.2.1 (xs.length + 1) y.2.2), vP l 0, vP l 0, vP l 1, undef]) (fun y D wz => HP (Out (SB l R pv cp xs)) w wz ([(bif D 13 then Ent.cel l #[vI R, (.slice y.2.1 (xs.length + 1) y.2.2)] 96 else Ent.cel l #[vI R, (.slice pv xs.length cp)] 96), (bif D 9 then Ent.own (.slice y.2.1 (xs.length + 1) y.2.2) (xs.length + 1) (iL (ins xs (sA xs x) x)) 3 1 else Ent.own (.slice pv xs.length cp) xs.length (iL xs) 3 1), .cel bx #[vI x] 3] ++ (bif D 8 then [Ent.cel y.1 #[vI x] 3] else []))) (0, none, 0) (by kernel_rfl) ⟨rfl, rfl, rfl, rfl, rfl, rfl, rfl, rfl, trivial⟩ (by kernel_rfl) (by kernel_rfl) (by kernel_rfl) (fun _ => rfl) (by kernel_rfl) (HP.drew hH18) ?_ ?_
      · refine AllOk.cons ?o0 (AllOk.cons ?o1 (AllOk.cons ?o2 (AllOk.cons ?o3 (AllOk.cons ?o4 (AllOk.cons ?o5 (AllOk.cons ?o6 (AllOk.cons ?o7 (AllOk.cons ?o8 (AllOk.cons ?o9 (AllOk.cons ?o10 (AllOk.cons ?o11 (AllOk.cons ?o12 (AllOk.cons ?o13 (AllOk.nil _))))))))))))))
        case o0 =>
          intro y D wz hDi hdep hclo hW
          exact .inl ⟨rfl, rfl, .inl ⟨y, wz, fun _ _ => rfl, by kernel_rfl, hW⟩⟩
        case o1 =>
          intro y D wz hDi hdep hclo hW
          exact .inl ⟨rfl, rfl, .inl ⟨y, wz, fun _ _ => rfl, by kernel_rfl, hW⟩⟩
        case o2 =>
          intro y D wz hDi hdep hclo hW
          exact .inl ⟨rfl, rfl, .inl ⟨y, wz, fun _ _ => rfl, by kernel_rfl, hW⟩⟩
        case o3 =>
          intro y D wz hDi hdep hclo hW
          exact .inl ⟨rfl, rfl, .inl ⟨y, wz, fun _ _ => rfl, by kernel_rfl, hW⟩⟩
        case o4 =>
          intro y D wz hDi hdep hclo hW
          exact .inl ⟨rfl, rfl, .inl ⟨y, wz, fun _ _ => rfl, by kernel_rfl, hW⟩⟩
        case o5 =>
          intro y D wz hDi hdep hclo hW
          have d13 : D 13 = false := by
            cases h : D 13 with
            | false => rfl
            | true => exact absurd (hclo 13 _ rfl h ⟨5, .phase⟩ (by simp) rfl) (by rw [hDi]; exact Bool.false_ne_true)
          have hW2 := hW
          simp only [d13, cond_false] at hW2
          exact .inl ⟨rfl, rfl, .inl ⟨y, wz, fun _ _ => rfl, x_load rfl rfl Try.underlying58 rfl (HP.cell hW2 0 rfl rfl), hW⟩⟩
        case o6 =>
          intro y D wz hDi hdep hclo hW
          exact .inl ⟨rfl, rfl, .inl ⟨y, wz, fun _ _ => rfl, by kernel_rfl, hW⟩⟩
        case o7 =>
          intro y D wz hDi hdep hclo hW
          exact .inl ⟨rfl, rfl, .inl ⟨y, wz, fun _ _ => rfl, x_load rfl rfl Try.underlying3 rfl (HP.cell hW 2 rfl rfl), hW⟩⟩
        case o8 =>
          intro y D wz hDi hdep hclo hW
          have d9 : D 9 = false := by
            cases h : D 9 with
            | false => rfl
            | true => exact absurd (hclo 9 _ rfl h ⟨8, .data⟩ (by simp) rfl) (by rw [hDi]; exact Bool.false_ne_true)
          have d13 : D 13 = false := by
            cases h : D 13 with
            | false => rfl
            | true => exact absurd (hclo 13 _ rfl h ⟨9, .data⟩ (by simp) rfl) (by rw [d9]; exact Bool.false_ne_true)
          simp only [hDi, d9, d13, cond_false] at hW
          refine .inl ⟨rfl, rfl, .inl ⟨(wz.heap.size, y.2), wz.alloc (.cells #[vI x] 3), fun j hj => ?_, by kernel_rfl, ?_⟩⟩
          · match j, hj with
            | 0, hj => rfl
            | 1, hj => rfl
            | 2, hj => rfl
            | 3, hj => rfl
            | 4, hj => rfl
            | 5, hj => rfl
            | 6, hj => rfl
            | 7, hj => rfl
            | 8, hj => rw [hDi] at hj; cases hj
            | 9, hj => rfl
            | 10, hj => rfl
            | 11, hj => rfl
            | 12, hj => rfl
            | 13, hj => rfl
            | j + 14, _ => rfl
          · have h4 := HP.alloc hW #[vI x] 3
            show HP (Out (SB l R pv cp xs)) w _ ([(bif D 13 then Ent.cel l #[vI R, (.slice y.2.1 (xs.length + 1) y.2.2)] 96 else Ent.cel l #[vI R, (.slice pv xs.length cp)] 96), (bif D 9 then Ent.own (.slice y.2.1 (xs.length + 1) y.2.2) (xs.length + 1) (iL (ins xs (sA xs x) x)) 3 1 else Ent.own (.slice pv xs.length cp) xs.length (iL xs) 3 1), .cel bx #[vI x] 3] ++ [Ent.cel wz.heap.size #[vI x] 3])
            simp only [d9, d13, cond_false]
            exact h4
        case o9 =>
          intro y D wz hDi hdep hclo hW
          have d8 : D 8 = true := hdep ⟨8, .data⟩ (by simp) rfl
          have d13 : D 13 = false := by
            cases h : D 13 with
            | false => rfl
            | true => exact absurd (hclo 13 _ rfl h ⟨9, .data⟩ (by simp) rfl) (by rw [hDi]; exact Bool.false_ne_true)
          simp only [hDi, d8, d13, cond_true, cond_false] at hW
          have hOB : OwnB wz [row pv xs.length cp xs, .cel y.1 #[vI x] 3] := ⟨fun e he => hW.hold e (by simp at he ⊢; rcases he with rfl | rfl <;> simp), (hW.apart.sublist (by simp : [row pv xs.length cp xs, Ent.cel y.1 #[vI x] 3].Sublist _))⟩
          refine .inl ⟨rfl, rfl, .inr (.inr ⟨61, #[.slice pv xs.length cp, vI (sA xs x : Int), vS y.1 1 1], by kernel_rfl, (Insert_any pv xs.length cp y.1 (sA xs x) xs x _ hOB (by omega) (by omega)).mono ?_⟩)⟩
          rintro e w8 ⟨pv2, cp2, he, hI⟩
          refine ⟨(y.1, pv2, cp2), fun j hj => ?_, he, ?_⟩
          · match j, hj with
            | 0, hj => rfl
            | 1, hj => rfl
            | 2, hj => rfl
            | 3, hj => rfl
            | 4, hj => rfl
            | 5, hj => rfl
            | 6, hj => rfl
            | 7, hj => rfl
            | 8, hj => rfl
            | 9, hj => rw [hDi] at hj; cases hj
            | 10, hj => rfl
            | 11, hj => rfl
            | 12, hj => rfl
            | 13, hj => rfl
            | j + 14, _ => rfl
          · have hC := HP.changed2 hW 1 rfl hI
            show HP (Out (SB l R pv cp xs)) w _ ([(bif D 13 then Ent.cel l #[vI R, (.slice pv2 (xs.length + 1) cp2)] 96 else Ent.cel l #[vI R, (.slice pv xs.length cp)] 96), Ent.own (.slice pv2 (xs.length + 1) cp2) (xs.length + 1) (iL (ins xs (sA xs x) x)) 3 1, .cel bx #[vI x] 3] ++ (bif D 8 then [Ent.cel y.1 #[vI x] 3] else []))
            simp only [d8, d13, cond_true, cond_false]
            exact hC
        case o10 =>
          intro y D wz hDi hdep hclo hW
          exact .inl ⟨rfl, rfl, .inl ⟨y, wz, fun _ _ => rfl, by kernel_rfl, hW⟩⟩
        case o11 =>
          intro y D wz hDi hdep hclo hW
          exact .inl ⟨rfl, rfl, .inl ⟨y, wz, fun _ _ => rfl, by kernel_rfl, hW⟩⟩
        case o12 =>
          intro y D wz hDi hdep hclo hW
          exact .inl ⟨rfl, rfl, .inl ⟨y, wz, fun _ _ => rfl, by kernel_rfl, hW⟩⟩
        case o13 =>
          intro y D wz hDi hdep hclo hW
          have d9 : D 9 = true := hdep ⟨9, .data⟩ (by simp) rfl
          have d8 : D 8 = true := hclo 9 _ rfl d9 ⟨8, .data⟩ (by simp) rfl
          simp only [hDi, d8, d9, cond_true, cond_false] at hW
          have h4 := HP.set (off := 1) (v := (.slice y.2.1 (xs.length + 1) y.2.2)) hW 0 rfl
          refine .inl ⟨rfl, rfl, .inr (.inl ⟨_, x_store rfl rfl rfl sz58 rfl (HP.cell hW 0 rfl rfl) (HP.free hW 0 rfl), rfl, ?_⟩)⟩
          show HP (Out (SB l R pv cp xs)) w _ ([Ent.cel l #[vI R, (.slice y.2.1 (xs.length + 1) y.2.2)] 96, (bif D 9 then Ent.own (.slice y.2.1 (xs.length + 1) y.2.2) (xs.length + 1) (iL (ins xs (sA xs x) x)) 3 1 else Ent.own (.slice pv xs.length cp) xs.length (iL xs) 3 1), .cel bx #[vI x] 3] ++ (bif D 8 then [Ent.cel y.1 #[vI x] 3] else []))
          simp only [d8, d9, cond_true]
          exact h4
      rintro ⟨nb, pv2, cp2⟩ D w9 hall hW
      simp only [hall 8 (by kernel_rfl), hall 9 (by kernel_rfl), hall 13 (by kernel_rfl), cond_true] at hW
      clear hall
      refine WQ.sub (l' := [(0, vP l 0), (1, vI x), (3, vP bx 0), (4, vI ((sS xs x : Int) + ((xs.length - sA xs x : Nat) : Int))), (5, vI 0), (6, vI (sA xs x : Int)), (7, .bool (!(wd x))), (15, .bool (decide (R ≤ (xs.length : Int))))]) ⟨rfl, rfl, rfl, rfl, rfl, rfl, rfl, rfl, trivial⟩ ?_
      have hH21 : HP (Out (SB l R pv cp xs)) w _ [.cel l #[vI R, (.slice pv2 (xs.length + 1) cp2)] 96, .own (.slice pv2 (xs.length + 1) cp2) (xs.length + 1) (iL (ins xs (sA xs x) x)) 3 1, .cel bx #[vI x] 3, .cel nb #[vI x] 3] := hW
      refine WQ.then ?_
      refine hK20 _ _ _ ?_
      refine WC.seq fun K22 hK22 => ?_
      refine WC.region ?_
      refine WL.pure (v := vI ((sS xs x : Int) + ((xs.length - sA xs x : Nat) : Int))) 49 rfl (Nat.le_of_ble_eq_true rfl) rfl rfl (by kernel_rfl) ?_
      refine WL.pure (v := vI ((sS xs x : Int) + ((xs.length - sA xs x : Nat) : Int))) 4 rfl (Nat.le_of_ble_eq_true rfl) rfl rfl (by kernel_rfl) ?_
      refine WL.pure (v := vI 0) 5 rfl (Nat.le_of_ble_eq_true rfl) rfl rfl (by kernel_rfl) ?_
      refine WL.nil ?_
      refine WQ.then ?_
      refine hK22 _ _ _ ?_
      refine WC.ret ?_
      refine WQ.ret2 4 5 rfl rfl rfl ?_
      have qe : psE R xs x = 0 := (ps_0 (fr := true) hwd (of_decide_eq_false hfull)).1
      have q := in_ok qe
      have ql := len_ins (xs := xs) (x := x) s1
      refine ⟨pv2, cp2, by rw [q.1, qe], ?_⟩
      rw [q.2]
      exact HP.eq (HP.drop (HP.drop hH21 3) 2) (by unfold SB; rw [ql] <;> rfl)
  ·
    refine WC.yes (congrArg (fun b => some (Value.bool (!b))) hwd) ?_
    refine WC.seq fun K23 hK23 => ?_
    refine WC.region ?_
    refine WL.pure (v := vI 0) 4 rfl (Nat.le_of_ble_eq_true rfl) rfl rfl (by kernel_rfl) ?_
    refine WL.pure (v := vI 1) 5 rfl (Nat.le_of_ble_eq_true rfl) rfl rfl (by kernel_rfl) ?_
    refine WL.nil ?_
    refine WQ.then ?_
    refine hK23 _ _ _ ?_
    refine WC.ret ?_
    refine WQ.inRet ?_
    refine WQ.thenRet ?_
    refine WQ.ret2 4 5 rfl rfl rfl ?_
    have qe : psE R xs x = 1 := (ps_1 (fr := true) hwd).1
    have q := in_no qe (by decide)
    exact ⟨pv, cp, by rw [q.1, qe], by rw [q.2]; exact (HP.drop hH8 2)⟩
set_option maxRecDepth 20000 in
set_option maxHeartbeats 4000000 in
theorem Remove_any (l : Nat) (R : Int) (pv : Option Addr) (cp : Nat) (xs : List Int) (x : Int) (w : World) (hB : OwnB w (SB l R pv cp xs)) (hR : 1 ≤ R) (hn : xs.length ≤ 32) (hso : srt xs) :
    Calls Try.prog 40 #[vP l 0, vI x] w fun e w' => ∃ pv' cp', e = .returned (.tuple #[vI (rmS xs x), vI (fdE xs x)]) ∧ HP (Out (SB l R pv cp xs)) w w' (SB l R pv' cp' (rmX xs x)) := by
  obtain ⟨s1, s2, -, -⟩ := s_spec (x := x) hn hso
  obtain ⟨f1, f2⟩ := f_spec (x := x) hn hso
  have hbl := bl_mono 32 (by omega) xs.length (by omega) hn
  have hbl2 : Lib.bitLen 32 = 6 := by decide
  refine calls_of Try.func40 rfl (m := 42) rfl [(0, vP l 0), (1, vI x)] (Fr_enter [vP l 0, vI x] 42 (Nat.le_of_ble_eq_true rfl)) ?_
  refine WC.seq fun K1 hK1 => ?_
  refine WC.region ?_
  refine WL.pure (v := vI 0) 4 rfl (Nat.le_of_ble_eq_true rfl) rfl rfl (by kernel_rfl) ?_
  refine WL.pure (v := vI 0) 5 rfl (Nat.le_of_ble_eq_true rfl) rfl rfl (by kernel_rfl) ?_
  refine WL.nil ?_
  refine WQ.then ?_
  refine hK1 _ _ _ ?_
  refine WC.seq fun K2 hK2 => ?_
  refine WC.region ?_
  refine WL.pure (v := vP l 0) 9 rfl (Nat.le_of_ble_eq_true rfl) rfl rfl (by kernel_rfl) ?_
  refine WL.pure (v := vI x) 10 rfl (Nat.le_of_ble_eq_true rfl) rfl rfl (by kernel_rfl) ?_
  refine WL.call (f := 42) (args := #[vP l 0, vI x]) 11 rfl (Nat.le_of_ble_eq_true rfl) rfl rfl (by kernel_rfl) ?_
  refine (Find_any l R pv cp xs x _ (HP.ownF (A := [.cel l #[vI R, .slice pv xs.length cp] 96, .own (.slice pv xs.length cp) xs.length (iL xs) 3 1]) (B := []) (by simpa using (HP.startB hB))) hR hn hso).mono ?_
  rintro e w3 ⟨rfl, hb4⟩
  refine ⟨_, rfl, ?_⟩
  have hH5 : HP (Out (SB l R pv cp xs)) w _ [.cel l #[vI R, .slice pv xs.length cp] 96, .own (.slice pv xs.length cp) xs.length (iL xs) 3 1] := HP.call (HP.startB hB) hb4
  refine WL.pure (v := .tuple #[vI (fdA xs x), vI (fdS xs x), vI (fdE xs x)]) 8 rfl (Nat.le_of_ble_eq_true rfl) rfl rfl (by kernel_rfl) ?_
  refine WL.pure (v := vI (fdA xs x)) 12 rfl (Nat.le_of_ble_eq_true rfl) rfl rfl (by kernel_rfl) ?_
  refine WL.pure (v := vI (fdS xs x)) 13 rfl (Nat.le_of_ble_eq_true rfl) rfl rfl (by kernel_rfl) ?_
  refine WL.pure (v := vI (fdE xs x)) 14 rfl (Nat.le_of_ble_eq_true rfl) rfl rfl (by kernel_rfl) ?_
  refine WL.pure (v := vI (fdA xs x)) 6 rfl (Nat.le_of_ble_eq_true rfl) rfl rfl (by kernel_rfl) ?_
  refine WL.pure (v := vI (fdS xs x)) 4 rfl (Nat.le_of_ble_eq_true rfl) rfl rfl (by kernel_rfl) ?_
  refine WL.pure (v := vI (fdE xs x)) 7 rfl (Nat.le_of_ble_eq_true rfl) rfl rfl (by kernel_rfl) ?_
  refine WL.nil ?_
  refine WQ.then ?_
  refine hK2 _ _ _ ?_
  refine WC.sub (l' := [(0, vP l 0), (1, vI x), (4, vI (fdS xs x)), (5, vI 0), (6, vI (fdA xs x)), (7, vI (fdE xs x))]) ⟨rfl, rfl, rfl, rfl, rfl, rfl, trivial⟩ ?_
  refine WC.seq fun K6 hK6 => ?_
  refine WC.seq fun K7 hK7 => ?_
  refine WC.region ?_
  refine WL.pure (v := vI (fdE xs x)) 15 rfl (Nat.le_of_ble_eq_true rfl) rfl rfl (by kernel_rfl) ?_
  by_cases hne : fdE xs x ≠ 0
  ·
    refine WL.pure (v := .bool true) 16 rfl (Nat.le_of_ble_eq_true rfl) rfl rfl (x_neq rfl rfl rfl (dT (hne))) ?_
    refine WL.nil ?_
    refine WQ.then ?_
    refine hK7 _ _ _ ?_
    refine WC.yes rfl ?_
    refine WC.seq fun K8 hK8 => ?_
    refine WC.region ?_
    refine WL.pure (v := vI (fdS xs x)) 17 rfl (Nat.le_of_ble_eq_true rfl) rfl rfl (by kernel_rfl) ?_
    refine WL.pure (v := vI (fdE xs x)) 18 rfl (Nat.le_of_ble_eq_true rfl) rfl rfl (by kernel_rfl) ?_
    refine WL.pure (v := vI (fdS xs x)) 4 rfl (Nat.le_of_ble_eq_true rfl) rfl rfl (by kernel_rfl) ?_
    refine WL.pure (v := vI (fdE xs x)) 5 rfl (Nat.le_of_ble_eq_true rfl) rfl rfl (by kernel_rfl) ?_
    refine WL.nil ?_
    refine WQ.then ?_
    refine hK8 _ _ _ ?_
    refine WC.ret ?_
    refine WQ.thenRet ?_
    refine WQ.ret2 4 5 rfl rfl rfl ?_
    have qs : rmS xs x = fdS xs x := by unfold rmS; rw [if_neg hne]
    have qx : rmX xs x = xs := by unfold rmX; rw [if_neg hne]
    exact ⟨pv, cp, by rw [qs], by rw [qx]; exact hH5⟩
  ·
    refine WL.pure (v := .bool false) 16 rfl (Nat.le_of_ble_eq_true rfl) rfl rfl (x_neq rfl rfl rfl (dF (hne))) ?_
    refine WL.nil ?_
    refine WQ.then ?_
    refine hK7 _ _ _ ?_
    refine WC.no rfl ?_
    refine WC.skip ?_
    refine WQ.then ?_
    refine hK6 _ _ _ ?_
    refine WC.seq fun K9 hK9 => ?_
    obtain ⟨hh1, hh2, hh3⟩ := fd_hit (xs := xs) (x := x) (by omega)
    have hlt := hh1.1
    rw [hh2, hh3]
    refine WC.region ?_
    refine WL.pure (v := vP l 0) 19 rfl (Nat.le_of_ble_eq_true rfl) rfl rfl (by kernel_rfl) ?_
    refine WL.pure (v := vP l 0) 20 rfl (Nat.le_of_ble_eq_true rfl) rfl rfl (by kernel_rfl) ?_
    refine WL.pure (v := vP l 0) 21 rfl (Nat.le_of_ble_eq_true rfl) rfl rfl (by kernel_rfl) ?_
    refine WL.pure (v := vP l 0) 22 rfl (Nat.le_of_ble_eq_true rfl) rfl rfl (by kernel_rfl) ?_
    refine WL.pure (v := vP l 1) 23 rfl (Nat.le_of_ble_eq_true rfl) rfl rfl (by kernel_rfl) ?_
    refine WL.pure (v := .slice pv xs.length cp) 24 rfl (Nat.le_of_ble_eq_true rfl) rfl rfl (x_load rfl rfl Try.underlying58 rfl (HP.cell hH5 0 rfl rfl)) ?_
    refine WL.pure (v := vI (fA xs x : Int)) 25 rfl (Nat.le_of_ble_eq_true rfl) rfl rfl (by kernel_rfl) ?_
    refine WL.pure (v := vI (fA xs x : Int)) 26 rfl (Nat.le_of_ble_eq_true rfl) rfl rfl (by kernel_rfl) ?_
    refine WL.pure (v := vI ((fA xs x + 1 : Nat) : Int)) 27 rfl (Nat.le_of_ble_eq_true rfl) rfl rfl (x_add (Z := ((fA xs x + 1 : Nat) : Int)) rfl rfl rfl (by omega) (by omega) (by omega)) ?_
    refine WL.call (f := 63) (args := #[.slice pv xs.length cp, vI (fA xs x : Int), vI ((fA xs x + 1 : Nat) : Int)]) 28 rfl (Nat.le_of_ble_eq_true rfl) rfl rfl (by kernel_rfl) ?_
    refine (Delete_any pv xs.length cp (fA xs x) xs _ (HP.get hH5 1 rfl) (by omega) (by omega)).mono ?_
    rintro e w8 ⟨rfl, hI⟩
    refine ⟨_, rfl, ?_⟩
    have hC := HP.changed2 hH5 1 rfl hI
    have hH10 : HP (Out (SB l R pv cp xs)) w _ [.cel l #[vI R, .slice pv xs.length cp] 96, .own (.slice pv (xs.length - 1) cp) (xs.length - 1) (iL (del xs (fA xs x))) 3 1] := hC
    refine WL.pure (v := vP l 0) 29 rfl (Nat.le_of_ble_eq_true rfl) rfl rfl (by kernel_rfl) ?_
    refine WL.pure (v := vP l 0) 30 rfl (Nat.le_of_ble_eq_true rfl) rfl rfl (by kernel_rfl) ?_
    refine WL.pure (v := vP l 1) 31 rfl (Nat.le_of_ble_eq_true rfl) rfl rfl (by kernel_rfl) ?_
    refine WL.store (H2 := [.cel l #[vI R, .slice pv (xs.length - 1) cp] 96, .own (.slice pv (xs.length - 1) cp) (xs.length - 1) (iL (del xs (fA xs x))) 3 1]) 0 hH10 rfl rfl rfl rfl rfl rfl sz58 rfl (Nat.le_of_ble_eq_true rfl) rfl rfl ?_
    intro w11 hH12
    refine WL.nil ?_
    refine WQ.then ?_
    refine hK9 _ _ _ ?_
    refine WC.sub (l' := [(0, vP l 0), (1, vI x), (4, vI (fS xs x : Int)), (5, vI 0), (6, vI (fA xs x : Int)), (7, vI (fdE xs x)), (16, .bool false)]) ⟨rfl, rfl, rfl, rfl, rfl, rfl, rfl, trivial⟩ ?_
    refine WC.seq fun K13 hK13 => ?_
    refine WC.region ?_
    refine WL.pure (v := vI (fS xs x : Int)) 32 rfl (Nat.le_of_ble_eq_true rfl) rfl rfl (by kernel_rfl) ?_
    refine WL.pure (v := vP l 0) 33 rfl (Nat.le_of_ble_eq_true rfl) rfl rfl (by kernel_rfl) ?_
    refine WL.pure (v := vP l 0) 34 rfl (Nat.le_of_ble_eq_true rfl) rfl rfl (by kernel_rfl) ?_
    refine WL.pure (v := vP l 0) 35 rfl (Nat.le_of_ble_eq_true rfl) rfl rfl (by kernel_rfl) ?_
    refine WL.pure (v := vP l 1) 36 rfl (Nat.le_of_ble_eq_true rfl) rfl rfl (by kernel_rfl) ?_
    refine WL.pure (v := .slice pv (xs.length - 1) cp) 37 rfl (Nat.le_of_ble_eq_true rfl) rfl rfl (x_load rfl rfl Try.underlying58 rfl (HP.cell hH12 0 rfl rfl)) ?_
    refine WL.pure (v := vI (((xs.length - 1) : Nat) : Int)) 38 rfl (Nat.le_of_ble_eq_true rfl) rfl rfl (by kernel_rfl) ?_
    refine WL.pure (v := vI ((fS xs x : Int) + ((xs.length - 1 : Nat) : Int))) 39 rfl (Nat.le_of_ble_eq_true rfl) rfl rfl (x_add (Z := (fS xs x : Int) + ((xs.length - 1 : Nat) : Int)) rfl rfl rfl (by omega) (by omega) (by omega)) ?_
    refine WL.pure (v := vI (fA xs x : Int)) 40 rfl (Nat.le_of_ble_eq_true rfl) rfl rfl (by kernel_rfl) ?_
    refine WL.pure (v := vI ((fS xs x : Int) + ((xs.length - 1 - fA xs x : Nat) : Int))) 41 rfl (Nat.le_of_ble_eq_true rfl) rfl rfl (x_sub (Z := (fS xs x : Int) + ((xs.length - 1 - fA xs x : Nat) : Int)) rfl rfl rfl (by omega) (by omega) (by omega)) ?_
    refine WL.pure (v := vI ((fS xs x : Int) + ((xs.length - 1 - fA xs x : Nat) : Int))) 4 rfl (Nat.le_of_ble_eq_true rfl) rfl rfl (by kernel_rfl) ?_
    refine WL.pure (v := vI 0) 5 rfl (Nat.le_of_ble_eq_true rfl) rfl rfl (by kernel_rfl) ?_
    refine WL.nil ?_
    refine WQ.then ?_
    refine hK13 _ _ _ ?_
    refine WC.sub (l' := [(0, vP l 0), (1, vI x), (4, vI ((fS xs x : Int) + ((xs.length - 1 - fA xs x : Nat) : Int))), (5, vI 0), (6, vI (fA xs x : Int)), (7, vI (fdE xs x)), (16, .bool false)]) ⟨rfl, rfl, rfl, rfl, rfl, rfl, rfl, trivial⟩ ?_
    refine WC.ret ?_
    refine WQ.ret2 4 5 rfl rfl rfl ?_
    have q0 : fdE xs x = 0 := by omega
    have qs : rmS xs x = (fS xs x : Int) + ((xs.length - 1 - fA xs x : Nat) : Int) := by unfold rmS; rw [if_pos q0]
    have qx : rmX xs x = del xs (fA xs x) := by unfold rmX; rw [if_pos q0]
    have ql := len_del (xs := xs) (i := fA xs x) hlt
    refine ⟨pv, cp, by rw [qs, q0], ?_⟩
    rw [qx]
    exact HP.eq hH12 (by unfold SB; rw [ql] <;> rfl)
set_option maxRecDepth 20000 in
set_option maxHeartbeats 4000000 in
theorem rInsert23_any (l : Nat) (R : Int) (pv : Option Addr) (cp : Nat) (xs : List Int) (x : Int) (w : World) (hB : OwnB w (SR l R pv cp xs)) (hR : 1 ≤ R) (hn : xs.length ≤ 32) (hso : srt xs) :
    Calls Try.prog 38 #[vP l 0, vI x] w fun e w' => ∃ pv' cp', e = .returned (.tuple #[vI (inS R xs x), vI (psE R xs x)]) ∧ HP (Out (SR l R pv cp xs)) w w' (SR l R pv' cp' (inX R xs x)) := by
  obtain ⟨s1, s2, -, -⟩ := s_spec (x := x) hn hso
  obtain ⟨f1, f2⟩ := f_spec (x := x) hn hso
  have hbl := bl_mono 32 (by omega) xs.length (by omega) hn
  have hbl2 : Lib.bitLen 32 = 6 := by decide
  refine calls_of Try.func38 rfl (m := 67) rfl [(0, vP l 0), (1, vI x)] (Fr_enter [vP l 0, vI x] 67 (Nat.le_of_ble_eq_true rfl)) ?_
  refine WC.seq fun K1 hK1 => ?_
  refine WC.region ?_
  refine WL.pure (v := vI 0) 4 rfl (Nat.le_of_ble_eq_true rfl) rfl rfl (by kernel_rfl) ?_
  refine WL.pure (v := vI 0) 5 rfl (Nat.le_of_ble_eq_true rfl) rfl rfl (by kernel_rfl) ?_
  refine WL.nil ?_
  refine WQ.then ?_
  refine hK1 _ _ _ ?_
  refine WC.seq fun K2 hK2 => ?_
  refine WC.seq fun K3 hK3 => ?_
  refine WC.region ?_
  refine WL.pure (v := vP l 0) 9 rfl (Nat.le_of_ble_eq_true rfl) rfl rfl (by kernel_rfl) ?_
  refine WL.pure (v := .bool false) 10 rfl (Nat.le_of_ble_eq_true rfl) rfl rfl (by kernel_rfl) ?_
  refine WL.pure (v := .bool false) 11 rfl (Nat.le_of_ble_eq_true rfl) rfl rfl (by kernel_rfl) ?_
  refine WL.pure (v := vP l 0) 12 rfl (Nat.le_of_ble_eq_true rfl) rfl rfl (by kernel_rfl) ?_
  refine WL.pure (v := vP l 0) 13 rfl (Nat.le_of_ble_eq_true rfl) rfl rfl (by kernel_rfl) ?_
  refine WL.pure (v := vP l 1) 14 rfl (Nat.le_of_ble_eq_true rfl) rfl rfl (by kernel_rfl) ?_
  refine WL.pure (v := vI R) 15 rfl (Nat.le_of_ble_eq_true rfl) rfl rfl (x_load rfl rfl Try.underlying3 rfl (HP.cell (HP.startB hB) 0 rfl rfl)) ?_
  refine WL.pure (v := .bool false) 16 rfl (Nat.le_of_ble_eq_true rfl) rfl rfl (x_eql rfl rfl rfl (dF (by omega))) ?_
  refine WL.pure (v := .bool false) 17 rfl (Nat.le_of_ble_eq_true rfl) rfl rfl (by kernel_rfl) ?_
  refine WL.pure (v := .bool false) 18 rfl (Nat.le_of_ble_eq_true rfl) rfl rfl (by kernel_rfl) ?_
  refine WL.pure (v := vI x) 19 rfl (Nat.le_of_ble_eq_true rfl) rfl rfl (by kernel_rfl) ?_
  refine WL.call (f := 62) (args := #[vI x]) 20 rfl (Nat.le_of_ble_eq_true rfl) rfl rfl (by kernel_rfl) ?_
  refine (rword_any _ _).mono ?_
  rintro e w4 ⟨rfl, rfl⟩
  refine ⟨_, rfl, ?_⟩
  refine WL.pure (v := .bool (!(wd x))) 21 rfl (Nat.le_of_ble_eq_true rfl) rfl rfl (by kernel_rfl) ?_
  refine WL.pure (v := .bool (!(wd x))) 22 rfl (Nat.le_of_ble_eq_true rfl) rfl rfl (by kernel_rfl) ?_
  refine WL.nil ?_
  refine WQ.then ?_
  refine hK3 _ _ _ ?_
  refine WC.sub (l' := [(0, vP l 0), (1, vI x), (4, vI 0), (5, vI 0), (22, .bool (!(wd x)))]) ⟨rfl, rfl, rfl, rfl, rfl, trivial⟩ ?_
  rcases Bool.eq_false_or_eq_true (wd x) with hwd | hwd
  ·
    refine WC.no (congrArg (fun b => some (Value.bool (!b))) hwd) ?_
    refine WC.skip ?_
    refine WQ.then ?_
    refine hK2 _ _ _ ?_
    refine WC.seq fun K5 hK5 => ?_
    refine WC.seq fun K6 hK6 => ?_
    refine WC.still (by kernel_rfl) (by kernel_rfl) ?_
    have hH7 : HP (Out (SR l R pv cp xs)) w _ [.cel l #[.slice pv xs.length cp, vI R] 97, .own (.slice pv xs.length cp) xs.length (iL xs) 3 1] := HP.drew (HP.startB hB)
    refine WS.val (v := vP l 0) 23 rfl (Nat.le_of_ble_eq_true rfl) rfl rfl (by kernel_rfl) ?_
    refine WS.val (v := vP l 0) 24 rfl (Nat.le_of_ble_eq_true rfl) rfl rfl (by kernel_rfl) ?_
    refine WS.val (v := vP l 0) 25 rfl (Nat.le_of_ble_eq_true rfl) rfl rfl (by kernel_rfl) ?_
    refine WS.val (v := .slice pv xs.length cp) 26 rfl (Nat.le_of_ble_eq_true rfl) rfl rfl (x_load rfl rfl Try.underlying58 rfl (HP.cell hH7 0 rfl rfl)) ?_
    refine WS.val (v := vI (xs.length : Int)) 27 rfl (Nat.le_of_ble_eq_true rfl) rfl rfl (by kernel_rfl) ?_
    refine WS.val (v := vP l 0) 28 rfl (Nat.le_of_ble_eq_true rfl) rfl rfl (by kernel_rfl) ?_
    refine WS.val (v := vP l 0) 29 rfl (Nat.le_of_ble_eq_true rfl) rfl rfl (by kernel_rfl) ?_
    refine WS.val (v := vP l 1) 30 rfl (Nat.le_of_ble_eq_true rfl) rfl rfl (by kernel_rfl) ?_
    refine WS.val (v := vI R) 31 rfl (Nat.le_of_ble_eq_true rfl) rfl rfl (x_load rfl rfl Try.underlying3 rfl (HP.cell hH7 0 rfl rfl)) ?_
    rcases Bool.eq_false_or_eq_true (decide (R ≤ (xs.length : Int))) with hfull | hfull
    ·
      refine WS.val (v := .bool true) 32 rfl (Nat.le_of_ble_eq_true rfl) rfl rfl (x_geq rfl rfl rfl hfull) ?_
      refine WS.nilQ ?_
      refine WQ.then ?_
      refine hK6 _ _ _ ?_
      refine WC.sub (l' := [(0, vP l 0), (1, vI x), (4, vI 0), (5, vI 0), (22, .bool (!(wd x))), (32, .bool true)]) ⟨rfl, rfl, rfl, rfl, rfl, rfl, trivial⟩ ?_
      refine WC.yes rfl ?_
      refine WC.seq fun K8 hK8 => ?_
      refine WC.region ?_
      refine WL.pure (v := vI 0) 4 rfl (Nat.le_of_ble_eq_true rfl) rfl rfl (by kernel_rfl) ?_
      refine WL.pure (v := vI 14) 5 rfl (Nat.le_of_ble_eq_true rfl) rfl rfl (by kernel_rfl) ?_
      refine WL.nil ?_
      refine WQ.then ?_
      refine hK8 _ _ _ ?_
      refine WC.ret ?_
      refine WQ.thenRet ?_
      refine WQ.ret2 4 5 rfl rfl rfl ?_
      have qe : psE R xs x = 14 := (ps_14 (fr := true) hwd (of_decide_eq_true hfull)).1
      have q := in_no qe (by decide)
      exact ⟨pv, cp, by rw [q.1, qe], by rw [q.2]; exact hH7⟩
    ·
      refine WS.val (v := .bool false) 32 rfl (Nat.le_of_ble_eq_true rfl) rfl rfl (x_geq rfl rfl rfl hfull) ?_
      refine WS.nilQ ?_
      refine WQ.then ?_
      refine hK6 _ _ _ ?_
      refine WC.sub (l' := [(0, vP l 0), (1, vI x), (4, vI 0), (5, vI 0), (22, .bool (!(wd x))), (32, .bool false)]) ⟨rfl, rfl, rfl, rfl, rfl, rfl, trivial⟩ ?_
      refine WC.no rfl ?_
      refine WC.skip ?_
      refine WQ.then ?_
      refine hK5 _ _ _ ?_
      refine WC.seq fun K9 hK9 => ?_
      refine WC.region ?_
      refine WL.pure (v := vP l 0) 34 rfl (Nat.le_of_ble_eq_true rfl) rfl rfl (by kernel_rfl) ?_
      refine WL.pure (v := vI x) 35 rfl (Nat.le_of_ble_eq_true rfl) rfl rfl (by kernel_rfl) ?_
      refine WL.call (f := 68) (args := #[vP l 0, vI x, .bool true]) 36 rfl (Nat.le_of_ble_eq_true rfl) rfl rfl (by kernel_rfl) ?_
      refine (halves_true_any l R pv cp xs x _ (HP.cell hH7 0 rfl rfl) (HP.get hH7 1 rfl) hn).mono ?_
      rintro e w10 ⟨rfl, hb11⟩
      refine ⟨_, rfl, ?_⟩
      have hH12 : HP (Out (SR l R pv cp xs)) w _ [.cel l #[.slice pv xs.length cp, vI R] 97, .own (.slice pv xs.length cp) xs.length (iL xs) 3 1] := HP.call hH7 hb11
      refine WL.pure (v := .tuple #[vI (sA xs x : Int), vI (sS xs x : Int)]) 33 rfl (Nat.le_of_ble_eq_true rfl) rfl rfl (by kernel_rfl) ?_
      refine WL.pure (v := vI (sA xs x : Int)) 37 rfl (Nat.le_of_ble_eq_true rfl) rfl rfl (by kernel_rfl) ?_
      refine WL.pure (v := vI (sS xs x : Int)) 38 rfl (Nat.le_of_ble_eq_true rfl) rfl rfl (by kernel_rfl) ?_
      refine WL.pure (v := vI (sA xs x : Int)) 6 rfl (Nat.le_of_ble_eq_true rfl) rfl rfl (by kernel_rfl) ?_
      refine WL.pure (v := vI (sS xs x : Int)) 7 rfl (Nat.le_of_ble_eq_true rfl) rfl rfl (by kernel_rfl) ?_
      refine WL.nil ?_
      refine WQ.then ?_
      refine hK9 _ _ _ ?_
      refine WC.sub (l' := [(0, vP l 0), (1, vI x), (4, vI 0), (5, vI 0), (6, vI (sA xs x : Int)), (7, vI (sS xs x : Int)), (22, .bool (!(wd x))), (32, .bool false)]) ⟨rfl, rfl, rfl, rfl, rfl, rfl, rfl, rfl, trivial⟩ ?_
      refine WC.seq fun K13 hK13 => ?_
      refine WC.region ?_
      refine WL.alloc (c := #[]) (T := 3) hH12 39 rfl (by decide) rfl rfl (fun b14 => vS b14 0 0) (by kernel_rfl) (fun b14 w15 hw15 => ?_)
      have hH16 : HP (Out (SR l R pv cp xs)) w w15 [.cel l #[.slice pv xs.length cp, vI R] 97, .own (.slice pv xs.length cp) xs.length (iL xs) 3 1, .cel b14 #[] 3] := hw15.2
      have nb14 := hw15.1
      clear hw15
      refine WL.pure (v := vP l 0) 40 rfl (Nat.le_of_ble_eq_true rfl) rfl rfl (by kernel_rfl) ?_
      refine WL.pure (v := vP l 0) 41 rfl (Nat.le_of_ble_eq_true rfl) rfl rfl (by kernel_rfl) ?_
      refine WL.pure (v := vP l 0) 42 rfl (Nat.le_of_ble_eq_true rfl) rfl rfl (by kernel_rfl) ?_
      refine WL.pure (v := .slice pv xs.length cp) 43 rfl (Nat.le_of_ble_eq_true rfl) rfl rfl (x_load rfl rfl Try.underlying58 rfl (HP.cell hH16 0 rfl rfl)) ?_
      refine WL.pure (v := vI (sA xs x : Int)) 44 rfl (Nat.le_of_ble_eq_true rfl) rfl rfl (by kernel_rfl) ?_
      refine WL.pure (v := .slice (slp pv (sA xs x) cp) (xs.length - (sA xs x)) (cp - (sA xs x))) 45 rfl (Nat.le_of_ble_eq_true rfl) rfl rfl (x_sliceLP (sA xs x) rfl rfl rfl Try.underlying58 rfl (by omega) (row_cap (HP.get hH16 1 rfl)).1 sz3) ?_
      have hO := HP.setSame hH16 2 (e' := row (some ⟨b14, 0, none⟩) 0 0 []) rfl (lit0 (HP.get hH16 2 rfl)) rfl
      have hH17 : HP (Out (SR l R pv cp xs)) w _ [.cel l #[.slice pv xs.length cp, vI R] 97, .own (.slice pv xs.length cp) xs.length (iL xs) 3 1, .own (.slice (some ⟨b14, 0, none⟩) 0 0) 0 (iL []) 3 1] := hO
      obtain ⟨i0, hi0, hz0, hz1, hz2⟩ := infoI
      refine WL.appendSrc (k := 0) (m := xs.length - sA xs x) (iL (xs.drop (sA xs x))) 2 hH17 46 rfl (by decide) rfl rfl rfl rfl Try.underlying58 hi0 hz0 hz1 hz2 rfl (by decide) rfl (src_lo (HP.get hH17 1 rfl) (by omega)) (by simp) (iL_one _) (by unfold maxLen; omega) (by omega) ?_
      rintro vc18 wc18 - hBc18
      have hAc18 := HP.eq (H' := [.cel l #[.slice pv xs.length cp, vI R] 97, .own (.slice pv xs.length cp) xs.length (iL xs) 3 1, .own vc18 (xs.length - sA xs x) (iL (xs.drop (sA xs x))) 3 1]) hBc18 (by simp [iL])
      obtain ⟨pc18, qc18, rfl, -⟩ := own_row (xs := (xs.drop (sA xs x))) (HP.get hAc18 2 rfl) rfl
      have hH19 : HP (Out (SR l R pv cp xs)) w _ [.cel l #[.slice pv xs.length cp, vI R] 97, .own (.slice pv xs.length cp) xs.length (iL xs) 3 1, .own (.slice pc18 (xs.length - sA xs x) qc18) (xs.length - sA xs x) (iL (xs.drop (sA xs x))) 3 1] := hAc18
      refine WL.pure (v := .slice pc18 (xs.length - sA xs x) qc18) 8 rfl (Nat.le_of_ble_eq_true rfl) rfl rfl (by kernel_rfl) ?_
      refine WL.nil ?_
      refine WQ.then ?_
      refine hK13 _ _ _ ?_
      refine WC.sub (l' := [(0, vP l 0), (1, vI x), (4, vI 0), (5, vI 0), (6, vI (sA xs x : Int)), (7, vI (sS xs x : Int)), (8, .slice pc18 (xs.length - sA xs x) qc18), (22, .bool (!(wd x))), (32, .bool false)]) ⟨rfl, rfl, rfl, rfl, rfl, rfl, rfl, rfl, rfl, trivial⟩ ?_
      refine WC.seq fun K20 hK20 => ?_
      refine WC.region ?_
      refine WL.pure (v := vP l 0) 47 rfl (Nat.le_of_ble_eq_true rfl) rfl rfl (by kernel_rfl) ?_
      refine WL.alloc (c := #[]) (T := 3) hH19 48 rfl (by decide) rfl rfl (fun b21 => vS b21 0 0) (by kernel_rfl) (fun b21 w22 hw22 => ?_)
      have hH23 : HP (Out (SR l R pv cp xs)) w w22 [.cel l #[.slice pv xs.length cp, vI R] 97, .own (.slice pv xs.length cp) xs.length (iL xs) 3 1, .own (.slice pc18 (xs.length - sA xs x) qc18) (xs.length - sA xs x) (iL (xs.drop (sA xs x))) 3 1, .cel b21 #[] 3] := hw22.2
      have nb21 := hw22.1
      clear hw22
      refine WL.pure (v := vP l 0) 49 rfl (Nat.le_of_ble_eq_true rfl) rfl rfl (by kernel_rfl) ?_
      refine WL.pure (v := vP l 0) 50 rfl (Nat.le_of_ble_eq_true rfl) rfl rfl (by kernel_rfl) ?_
      refine WL.pure (v := vP l 0) 51 rfl (Nat.le_of_ble_eq_true rfl) rfl rfl (by kernel_rfl) ?_
      refine WL.pure (v := .slice pv xs.length cp) 52 rfl (Nat.le_of_ble_eq_true rfl) rfl rfl (x_load rfl rfl Try.underlying58 rfl (HP.cell hH23 0 rfl rfl)) ?_
      refine WL.pure (v := vI (sA xs x : Int)) 53 rfl (Nat.le_of_ble_eq_true rfl) rfl rfl (by kernel_rfl) ?_
      refine WL.pure (v := .slice pv (sA xs x) cp) 54 rfl (Nat.le_of_ble_eq_true rfl) rfl rfl (x_sliceH (sA xs x) rfl rfl rfl Try.underlying58 rfl (by have := (row_cap (HP.get hH23 1 rfl)).1; omega) sz3) ?_
      have hO := HP.setSame hH23 3 (e' := row (some ⟨b21, 0, none⟩) 0 0 []) rfl (lit0 (HP.get hH23 3 rfl)) rfl
      have hH24 : HP (Out (SR l R pv cp xs)) w _ [.cel l #[.slice pv xs.length cp, vI R] 97, .own (.slice pv xs.length cp) xs.length (iL xs) 3 1, .own (.slice pc18 (xs.length - sA xs x) qc18) (xs.length - sA xs x) (iL (xs.drop (sA xs x))) 3 1, .own (.slice (some ⟨b21, 0, none⟩) 0 0) 0 (iL []) 3 1] := hO
      obtain ⟨i0, hi0, hz0, hz1, hz2⟩ := infoI
      refine WL.appendSrc (k := 0) (m := sA xs x) (iL (xs.take (sA xs x))) 3 hH24 55 rfl (by decide) rfl rfl rfl rfl Try.underlying58 hi0 hz0 hz1 hz2 rfl (by decide) rfl (src_hi (HP.get hH24 1 rfl) (by omega)) (by simp; try omega) (iL_one _) (by unfold maxLen; omega) (by omega) ?_
      rintro vc25 wc25 - hBc25
      have hAc25 := HP.eq (H' := [.cel l #[.slice pv xs.length cp, vI R] 97, .own (.slice pv xs.length cp) xs.length (iL xs) 3 1, .own (.slice pc18 (xs.length - sA xs x) qc18) (xs.length - sA xs x) (iL (xs.drop (sA xs x))) 3 1, .own vc25 (sA xs x) (iL (xs.take (sA xs x))) 3 1]) hBc25 (by simp [iL])
      obtain ⟨pc25, qc25, rfl, -⟩ := own_row (xs := (xs.take (sA xs x))) (HP.get hAc25 3 rfl) rfl
      have hH26 : HP (Out (SR l R pv cp xs)) w _ [.cel l #[.slice pv xs.length cp, vI R] 97, .own (.slice pv xs.length cp) xs.length (iL xs) 3 1, .own (.slice pc18 (xs.length - sA xs x) qc18) (xs.length - sA xs x) (iL (xs.drop (sA xs x))) 3 1, .own (.slice pc25 (sA xs x) qc25) (sA xs x) (iL (xs.take (sA xs x))) 3 1] := hAc25
      refine WL.pure (v := vI x) 56 rfl (Nat.le_of_ble_eq_true rfl) rfl rfl (by kernel_rfl) ?_
      refine WL.alloc (c := #[vI x]) (T := 3) hH26 57 rfl (by decide) rfl rfl (fun b27 => vS b27 1 1) (by kernel_rfl) (fun b27 w28 hw28 => ?_)
      have hH29 : HP (Out (SR l R pv cp xs)) w w28 [.cel l #[.slice pv xs.length cp, vI R] 97, .own (.slice pv xs.length cp) xs.length (iL xs) 3 1, .own (.slice pc18 (xs.length - sA xs x) qc18) (xs.length - sA xs x) (iL (xs.drop (sA xs x))) 3 1, .own (.slice pc25 (sA xs x) qc25) (sA xs x) (iL (xs.take (sA xs x))) 3 1, .cel b27 #[vI x] 3] := hw28.2
      have nb27 := hw28.1
      clear hw28
      obtain ⟨i0, hi0, hz0, hz1, hz2⟩ := infoI
      refine WL.appendSrc (k := sA xs x) (m := 1) (iL [x]) 3 hH29 58 rfl (by decide) rfl rfl rfl rfl Try.underlying58 hi0 hz0 hz1 hz2 rfl (by decide) rfl (.inl ⟨_, rfl, fun q u hu => by rw [ad_add]; exact HP.cell hH29 4 rfl (by simpa using hu)⟩) (by simp; try omega) (iL_one _) (by unfold maxLen; omega) (by omega) ?_
      rintro vc30 wc30 - hBc30
      have hAc30 := HP.eq (H' := [.cel l #[.slice pv xs.length cp, vI R] 97, .own (.slice pv xs.length cp) xs.length (iL xs) 3 1, .own (.slice pc18 (xs.length - sA xs x) qc18) (xs.length - sA xs x) (iL (xs.drop (sA xs x))) 3 1, .own vc30 (sA xs x + (1)) (iL ((xs.take (sA xs x)) ++ [x])) 3 1, .cel b27 #[vI x] 3]) hBc30 (by simp [iL])
      obtain ⟨pc30, qc30, rfl, -⟩ := own_row (xs := ((xs.take (sA xs x)) ++ [x])) (HP.get hAc30 3 rfl) rfl
      have hH31 : HP (Out (SR l R pv cp xs)) w _ [.cel l #[.slice pv xs.length cp, vI R] 97, .own (.slice pv xs.length cp) xs.length (iL xs) 3 1, .own (.slice pc18 (xs.length - sA xs x) qc18) (xs.length - sA xs x) (iL (xs.drop (sA xs x))) 3 1, .own (.slice pc30 (sA xs x + (1)) qc30) (sA xs x + (1)) (iL ((xs.take (sA xs x)) ++ [x])) 3 1, .cel b27 #[vI x] 3] := hAc30
      refine WL.pure (v := .slice pc18 (xs.length - sA xs x) qc18) 59 rfl (Nat.le_of_ble_eq_true rfl) rfl rfl (by kernel_rfl) ?_
      obtain ⟨i0, hi0, hz0, hz1, hz2⟩ := infoI
      refine WL.appendSrc (k := sA xs x + (1)) (m := xs.length - sA xs x) (iL (xs.drop (sA xs x))) 3 hH31 60 rfl (by decide) rfl rfl rfl rfl Try.underlying58 hi0 hz0 hz1 hz2 rfl (by decide) rfl (row_src (HP.get hH31 2 rfl)) (by simp) (iL_one _) (by unfold maxLen; omega) (by omega) ?_
      rintro vc32 wc32 - hBc32
      have hAc32 := HP.eq (H' := [.cel l #[.slice pv xs.length cp, vI R] 97, .own (.slice pv xs.length cp) xs.length (iL xs) 3 1, .own (.slice pc18 (xs.length - sA xs x) qc18) (xs.length - sA xs x) (iL (xs.drop (sA xs x))) 3 1, .own vc32 (sA xs x + (1) + (xs.length - sA xs x)) (iL ((xs.take (sA xs x) ++ [x]) ++ (xs.drop (sA xs x)))) 3 1, .cel b27 #[vI x] 3]) hBc32 (by simp [iL])
      obtain ⟨pc32, qc32, rfl, -⟩ := own_row (xs := ((xs.take (sA xs x) ++ [x]) ++ (xs.drop (sA xs x)))) (HP.get hAc32 3 rfl) rfl
      have hH33 : HP (Out (SR l R pv cp xs)) w _ [.cel l #[.slice pv xs.length cp, vI R] 97, .own (.slice pv xs.length cp) xs.length (iL xs) 3 1, .own (.slice pc18 (xs.length - sA xs x) qc18) (xs.length - sA xs x) (iL (xs.drop (sA xs x))) 3 1, .own (.slice pc32 (sA xs x + (1) + (xs.length - sA xs x)) qc32) (sA xs x + (1) + (xs.length - sA xs x)) (iL ((xs.take (sA xs x) ++ [x]) ++ (xs.drop (sA xs x)))) 3 1, .cel b27 #[vI x] 3] := hAc32
      refine WL.pure (v := vP l 0) 61 rfl (Nat.le_of_ble_eq_true rfl) rfl rfl (by kernel_rfl) ?_
      refine WL.pure (v := vP l 0) 62 rfl (Nat.le_of_ble_eq_true rfl) rfl rfl (by kernel_rfl) ?_
      refine WL.store (H2 := [.cel l #[.slice pc32 (sA xs x + (1) + (xs.length - sA xs x)) qc32, vI R] 97, .own (.slice pv xs.length cp) xs.length (iL xs) 3 1, .own (.slice pc18 (xs.length - sA xs x) qc18) (xs.length - sA xs x) (iL (xs.drop (sA xs x))) 3 1, .own (.slice pc32 (sA xs x + (1) + (xs.length - sA xs x)) qc32) (sA xs x + (1) + (xs.length - sA xs x)) (iL ((xs.take (sA xs x) ++ [x]) ++ (xs.drop (sA xs x)))) 3 1, .cel b27 #[vI x] 3]) 0 hH33 rfl rfl rfl rfl rfl rfl sz58 rfl (Nat.le_of_ble_eq_true rfl) rfl rfl ?_
      intro w34 hH35
      refine WL.nil ?_
      refine WQ.then ?_
      refine hK20 _ _ _ ?_
      refine WC.sub (l' := [(0, vP l 0), (1, vI x), (4, vI 0), (5, vI 0), (6, vI (sA xs x : Int)), (7, vI (sS xs x : Int)), (8, .slice pc18 (xs.length - sA xs x) qc18), (22, .bool (!(wd x))), (32, .bool false)]) ⟨rfl, rfl, rfl, rfl, rfl, rfl, rfl, rfl, rfl, trivial⟩ ?_
      refine WC.seq fun K36 hK36 => ?_
      refine WC.region ?_
      refine WL.pure (v := vI (sS xs x : Int)) 63 rfl (Nat.le_of_ble_eq_true rfl) rfl rfl (by kernel_rfl) ?_
      refine WL.pure (v := .slice pc18 (xs.length - sA xs x) qc18) 64 rfl (Nat.le_of_ble_eq_true rfl) rfl rfl (by kernel_rfl) ?_
      refine WL.pure (v := vI ((xs.length - sA xs x : Nat) : Int)) 65 rfl (Nat.le_of_ble_eq_true rfl) rfl rfl (by kernel_rfl) ?_
      refine WL.pure (v := vI ((sS xs x : Int) + ((xs.length - sA xs x : Nat) : Int))) 66 rfl (Nat.le_of_ble_eq_true rfl) rfl rfl (x_add (Z := (sS xs x : Int) + ((xs.length - sA xs x : Nat) : Int)) rfl rfl rfl (by omega) (by omega) (by omega)) ?_
      refine WL.pure (v := vI ((sS xs x : Int) + ((xs.length - sA xs x : Nat) : Int))) 4 rfl (Nat.le_of_ble_eq_true rfl) rfl rfl (by kernel_rfl) ?_
      refine WL.pure (v := vI 0) 5 rfl (Nat.le_of_ble_eq_true rfl) rfl rfl (by kernel_rfl) ?_
      refine WL.nil ?_
      refine WQ.then ?_
      refine hK36 _ _ _ ?_
      refine WC.sub (l' := [(0, vP l 0), (1, vI x), (4, vI ((sS xs x : Int) + ((xs.length - sA xs x : Nat) : Int))), (5, vI 0), (6, vI (sA xs x : Int)), (7, vI (sS xs x : Int)), (8, .slice pc18 (xs.length - sA xs x) qc18), (22, .bool (!(wd x))), (32, .bool false)]) ⟨rfl, rfl, rfl, rfl, rfl, rfl, rfl, rfl, rfl, trivial⟩ ?_
      refine WC.ret ?_
      refine WQ.ret2 4 5 rfl rfl rfl ?_
      have hfl : (sA xs x + (1) + (xs.length - sA xs x)) = xs.length + 1 := by omega
      have hfx : ((xs.take (sA xs x) ++ [x]) ++ (xs.drop (sA xs x))) = ins xs (sA xs x) x := by simp [ins]
      obtain ⟨pv2, hpv2⟩ : ∃ q, q = pc32 := ⟨_, rfl⟩
      obtain ⟨cp2, hcp2⟩ : ∃ q, q = qc32 := ⟨_, rfl⟩
      have hF0 := HP.sub hH35 (show List.Sublist (α := Ent) [.cel l #[.slice pc32 (sA xs x + (1) + (xs.length - sA xs x)) qc32, vI R] 97, .own (.slice pc32 (sA xs x + (1) + (xs.length - sA xs x)) qc32) (sA xs x + (1) + (xs.length - sA xs x)) (iL ((xs.take (sA xs x) ++ [x]) ++ (xs.drop (sA xs x)))) 3 1] [.cel l #[.slice pc32 (sA xs x + (1) + (xs.length - sA xs x)) qc32, vI R] 97, .own (.slice pv xs.length cp) xs.length (iL xs) 3 1, .own (.slice pc18 (xs.length - sA xs x) qc18) (xs.length - sA xs x) (iL (xs.drop (sA xs x))) 3 1, .own (.slice pc32 (sA xs x + (1) + (xs.length - sA xs x)) qc32) (sA xs x + (1) + (xs.length - sA xs x)) (iL ((xs.take (sA xs x) ++ [x]) ++ (xs.drop (sA xs x)))) 3 1, .cel b27 #[vI x] 3] by simp)
      have hF := hF0
      rw [hfl, hfx, ← hpv2, ← hcp2] at hF
      have qe : psE R xs x = 0 := (ps_0 (fr := true) hwd (of_decide_eq_false hfull)).1
      have q := in_ok qe
      have ql := len_ins (xs := xs) (x := x) s1
      refine ⟨pv2, cp2, by rw [q.1, qe], ?_⟩
      rw [q.2]
      exact HP.eq hF (by unfold SR; rw [ql] <;> rfl)
  ·
    refine WC.yes (congrArg (fun b => some (Value.bool (!b))) hwd) ?_
    refine WC.seq fun K37 hK37 => ?_
    refine WC.region ?_
    refine WL.pure (v := vI 0) 4 rfl (Nat.le_of_ble_eq_true rfl) rfl rfl (by kernel_rfl) ?_
    refine WL.pure (v := vI 1) 5 rfl (Nat.le_of_ble_eq_true rfl) rfl rfl (by kernel_rfl) ?_
    refine WL.nil ?_
    refine WQ.then ?_
    refine hK37 _ _ _ ?_
    refine WC.ret ?_
    refine WQ.thenRet ?_
    refine WQ.ret2 4 5 rfl rfl rfl ?_
    have qe : psE R xs x = 1 := (ps_1 (fr := true) hwd).1
    have q := in_no qe (by decide)
    exact ⟨pv, cp, by rw [q.1, qe], by rw [q.2]; exact (HP.startB hB)⟩
set_option maxRecDepth 20000 in
set_option maxHeartbeats 4000000 in
theorem rRemove_any (l : Nat) (R : Int) (pv : Option Addr) (cp : Nat) (xs : List Int) (x : Int) (w : World) (hB : OwnB w (SR l R pv cp xs)) (hR : 1 ≤ R) (hn : xs.length ≤ 32) (hso : srt xs) :
    Calls Try.prog 41 #[vP l 0, vI x] w fun e w' => ∃ pv' cp', e = .returned (.tuple #[vI (rmS xs x), vI (fdE xs x)]) ∧ HP (Out (SR l R pv cp xs)) w w' (SR l R pv' cp' (rmX xs x)) := by
  obtain ⟨s1, s2, -, -⟩ := s_spec (x := x) hn hso
  obtain ⟨f1, f2⟩ := f_spec (x := x) hn hso
  have hbl := bl_mono 32 (by omega) xs.length (by omega) hn
  have hbl2 : Lib.bitLen 32 = 6 := by decide
  refine calls_of Try.func41 rfl (m := 47) rfl [(0, vP l 0), (1, vI x)] (Fr_enter [vP l 0, vI x] 47 (Nat.le_of_ble_eq_true rfl)) ?_
  refine WC.seq fun K1 hK1 => ?_
  refine WC.region ?_
  refine WL.pure (v := vI 0) 4 rfl (Nat.le_of_ble_eq_true rfl) rfl rfl (by kernel_rfl) ?_
  refine WL.pure (v := vI 0) 5 rfl (Nat.le_of_ble_eq_true rfl) rfl rfl (by kernel_rfl) ?_
  refine WL.nil ?_
  refine WQ.then ?_
  refine hK1 _ _ _ ?_
  refine WC.seq fun K2 hK2 => ?_
  refine WC.region ?_
  refine WL.pure (v := vP l 0) 11 rfl (Nat.le_of_ble_eq_true rfl) rfl rfl (by kernel_rfl) ?_
  refine WL.pure (v := vI x) 12 rfl (Nat.le_of_ble_eq_true rfl) rfl rfl (by kernel_rfl) ?_
  refine WL.call (f := 43) (args := #[vP l 0, vI x]) 13 rfl (Nat.le_of_ble_eq_true rfl) rfl rfl (by kernel_rfl) ?_
  refine (rFind_any l R pv cp xs x _ (HP.ownF (A := [.cel l #[.slice pv xs.length cp, vI R] 97, .own (.slice pv xs.length cp) xs.length (iL xs) 3 1]) (B := []) (by simpa using (HP.startB hB))) hR hn hso).mono ?_
  rintro e w3 ⟨rfl, hb4⟩
  refine ⟨_, rfl, ?_⟩
  have hH5 : HP (Out (SR l R pv cp xs)) w _ [.cel l #[.slice pv xs.length cp, vI R] 97, .own (.slice pv xs.length cp) xs.length (iL xs) 3 1] := HP.call (HP.startB hB) hb4
  refine WL.pure (v := .tuple #[vI (fdA xs x), vI (fdS xs x), vI (fdE xs x)]) 10 rfl (Nat.le_of_ble_eq_true rfl) rfl rfl (by kernel_rfl) ?_
  refine WL.pure (v := vI (fdA xs x)) 14 rfl (Nat.le_of_ble_eq_true rfl) rfl rfl (by kernel_rfl) ?_
  refine WL.pure (v := vI (fdS xs x)) 15 rfl (Nat.le_of_ble_eq_true rfl) rfl rfl (by kernel_rfl) ?_
  refine WL.pure (v := vI (fdE xs x)) 16 rfl (Nat.le_of_ble_eq_true rfl) rfl rfl (by kernel_rfl) ?_
  refine WL.pure (v := vI (fdA xs x)) 6 rfl (Nat.le_of_ble_eq_true rfl) rfl rfl (by kernel_rfl) ?_
  refine WL.pure (v := vI (fdS xs x)) 7 rfl (Nat.le_of_ble_eq_true rfl) rfl rfl (by kernel_rfl) ?_
  refine WL.pure (v := vI (fdE xs x)) 8 rfl (Nat.le_of_ble_eq_true rfl) rfl rfl (by kernel_rfl) ?_
  refine WL.nil ?_
  refine WQ.then ?_
  refine hK2 _ _ _ ?_
  refine WC.sub (l' := [(0, vP l 0), (1, vI x), (4, vI 0), (5, vI 0), (6, vI (fdA xs x)), (7, vI (fdS xs x)), (8, vI (fdE xs x))]) ⟨rfl, rfl, rfl, rfl, rfl, rfl, rfl, trivial⟩ ?_
  refine WC.seq fun K6 hK6 => ?_
  refine WC.seq fun K7 hK7 => ?_
  refine WC.region ?_
  refine WL.pure (v := vI (fdE xs x)) 17 rfl (Nat.le_of_ble_eq_true rfl) rfl rfl (by kernel_rfl) ?_
  by_cases hne : fdE xs x ≠ 0
  ·
    refine WL.pure (v := .bool true) 18 rfl (Nat.le_of_ble_eq_true rfl) rfl rfl (x_neq rfl rfl rfl (dT (hne))) ?_
    refine WL.nil ?_
    refine WQ.then ?_
    refine hK7 _ _ _ ?_
    refine WC.yes rfl ?_
    refine WC.seq fun K8 hK8 => ?_
    refine WC.region ?_
    refine WL.pure (v := vI (fdS xs x)) 19 rfl (Nat.le_of_ble_eq_true rfl) rfl rfl (by kernel_rfl) ?_
    refine WL.pure (v := vI (fdE xs x)) 20 rfl (Nat.le_of_ble_eq_true rfl) rfl rfl (by kernel_rfl) ?_
    refine WL.pure (v := vI (fdS xs x)) 4 rfl (Nat.le_of_ble_eq_true rfl) rfl rfl (by kernel_rfl) ?_
    refine WL.pure (v := vI (fdE xs x)) 5 rfl (Nat.le_of_ble_eq_true rfl) rfl rfl (by kernel_rfl) ?_
    refine WL.nil ?_
    refine WQ.then ?_
    refine hK8 _ _ _ ?_
    refine WC.ret ?_
    refine WQ.thenRet ?_
    refine WQ.ret2 4 5 rfl rfl rfl ?_
    have qs : rmS xs x = fdS xs x := by unfold rmS; rw [if_neg hne]
    have qx : rmX xs x = xs := by unfold rmX; rw [if_neg hne]
    exact ⟨pv, cp, by rw [qs], by rw [qx]; exact hH5⟩
  ·
    refine WL.pure (v := .bool false) 18 rfl (Nat.le_of_ble_eq_true rfl) rfl rfl (x_neq rfl rfl rfl (dF (hne))) ?_
    refine WL.nil ?_
    refine WQ.then ?_
    refine hK7 _ _ _ ?_
    refine WC.no rfl ?_
    refine WC.skip ?_
    refine WQ.then ?_
    refine hK6 _ _ _ ?_
    refine WC.seq fun K9 hK9 => ?_
    obtain ⟨hh1, hh2, hh3⟩ := fd_hit (xs := xs) (x := x) (by omega)
    have hlt := hh1.1
    rw [hh2, hh3]
    refine WC.region ?_
    refine WL.alloc (c := #[]) (T := 3) hH5 21 rfl (by decide) rfl rfl (fun b10 => vS b10 0 0) (by kernel_rfl) (fun b10 w11 hw11 => ?_)
    have hH12 : HP (Out (SR l R pv cp xs)) w w11 [.cel l #[.slice pv xs.length cp, vI R] 97, .own (.slice pv xs.length cp) xs.length (iL xs) 3 1, .cel b10 #[] 3] := hw11.2
    have nb10 := hw11.1
    clear hw11
    refine WL.pure (v := vP l 0) 22 rfl (Nat.le_of_ble_eq_true rfl) rfl rfl (by kernel_rfl) ?_
    refine WL.pure (v := vP l 0) 23 rfl (Nat.le_of_ble_eq_true rfl) rfl rfl (by kernel_rfl) ?_
    refine WL.pure (v := vP l 0) 24 rfl (Nat.le_of_ble_eq_true rfl) rfl rfl (by kernel_rfl) ?_
    refine WL.pure (v := .slice pv xs.length cp) 25 rfl (Nat.le_of_ble_eq_true rfl) rfl rfl (x_load rfl rfl Try.underlying58 rfl (HP.cell hH12 0 rfl rfl)) ?_
    refine WL.pure (v := vI (fA xs x : Int)) 26 rfl (Nat.le_of_ble_eq_true rfl) rfl rfl (by kernel_rfl) ?_
    refine WL.pure (v := vI ((fA xs x + 1 : Nat) : Int)) 27 rfl (Nat.le_of_ble_eq_true rfl) rfl rfl (x_add (Z := ((fA xs x + 1 : Nat) : Int)) rfl rfl rfl (by omega) (by omega) (by omega)) ?_
    refine WL.pure (v := .slice (slp pv (fA xs x + 1) cp) (xs.length - (fA xs x + 1)) (cp - (fA xs x + 1))) 28 rfl (Nat.le_of_ble_eq_true rfl) rfl rfl (x_sliceLP (fA xs x + 1) rfl rfl rfl Try.underlying58 rfl (by omega) (row_cap (HP.get hH12 1 rfl)).1 sz3) ?_
    have hO := HP.setSame hH12 2 (e' := row (some ⟨b10, 0, none⟩) 0 0 []) rfl (lit0 (HP.get hH12 2 rfl)) rfl
    have hH13 : HP (Out (SR l R pv cp xs)) w _ [.cel l #[.slice pv xs.length cp, vI R] 97, .own (.slice pv xs.length cp) xs.length (iL xs) 3 1, .own (.slice (some ⟨b10, 0, none⟩) 0 0) 0 (iL []) 3 1] := hO
    obtain ⟨i0, hi0, hz0, hz1, hz2⟩ := infoI
    refine WL.appendSrc (k := 0) (m := xs.length - (fA xs x + 1)) (iL (xs.drop (fA xs x + 1))) 2 hH13 29 rfl (by decide) rfl rfl rfl rfl Try.underlying58 hi0 hz0 hz1 hz2 rfl (by decide) rfl (src_lo (HP.get hH13 1 rfl) (by omega)) (by simp) (iL_one _) (by unfold maxLen; omega) (by omega) ?_
    rintro vc14 wc14 - hBc14
    have hAc14 := HP.eq (H' := [.cel l #[.slice pv xs.length cp, vI R] 97, .own (.slice pv xs.length cp) xs.length (iL xs) 3 1, .own vc14 (xs.length - (fA xs x + 1)) (iL (xs.drop (fA xs x + 1))) 3 1]) hBc14 (by simp [iL])
    obtain ⟨pc14, qc14, rfl, -⟩ := own_row (xs := (xs.drop (fA xs x + 1))) (HP.get hAc14 2 rfl) rfl
    have hH15 : HP (Out (SR l R pv cp xs)) w _ [.cel l #[.slice pv xs.length cp, vI R] 97, .own (.slice pv xs.length cp) xs.length (iL xs) 3 1, .own (.slice pc14 (xs.length - (fA xs x + 1)) qc14) (xs.length - (fA xs x + 1)) (iL (xs.drop (fA xs x + 1))) 3 1] := hAc14
    refine WL.pure (v := .slice pc14 (xs.length - (fA xs x + 1)) qc14) 9 rfl (Nat.le_of_ble_eq_true rfl) rfl rfl (by kernel_rfl) ?_
    refine WL.nil ?_
    refine WQ.then ?_
    refine hK9 _ _ _ ?_
    refine WC.sub (l' := [(0, vP l 0), (1, vI x), (4, vI 0), (5, vI 0), (6, vI (fA xs x : Int)), (7, vI (fS xs x : Int)), (8, vI (fdE xs x)), (9, .slice pc14 (xs.length - (fA xs x + 1)) qc14), (18, .bool false)]) ⟨rfl, rfl, rfl, rfl, rfl, rfl, rfl, rfl, rfl, trivial⟩ ?_
    refine WC.seq fun K16 hK16 => ?_
    refine WC.region ?_
    refine WL.pure (v := vP l 0) 30 rfl (Nat.le_of_ble_eq_true rfl) rfl rfl (by kernel_rfl) ?_
    refine WL.alloc (c := #[]) (T := 3) hH15 31 rfl (by decide) rfl rfl (fun b17 => vS b17 0 0) (by kernel_rfl) (fun b17 w18 hw18 => ?_)
    have hH19 : HP (Out (SR l R pv cp xs)) w w18 [.cel l #[.slice pv xs.length cp, vI R] 97, .own (.slice pv xs.length cp) xs.length (iL xs) 3 1, .own (.slice pc14 (xs.length - (fA xs x + 1)) qc14) (xs.length - (fA xs x + 1)) (iL (xs.drop (fA xs x + 1))) 3 1, .cel b17 #[] 3] := hw18.2
    have nb17 := hw18.1
    clear hw18
    refine WL.pure (v := vP l 0) 32 rfl (Nat.le_of_ble_eq_true rfl) rfl rfl (by kernel_rfl) ?_
    refine WL.pure (v := vP l 0) 33 rfl (Nat.le_of_ble_eq_true rfl) rfl rfl (by kernel_rfl) ?_
    refine WL.pure (v := vP l 0) 34 rfl (Nat.le_of_ble_eq_true rfl) rfl rfl (by kernel_rfl) ?_
    refine WL.pure (v := .slice pv xs.length cp) 35 rfl (Nat.le_of_ble_eq_true rfl) rfl rfl (x_load rfl rfl Try.underlying58 rfl (HP.cell hH19 0 rfl rfl)) ?_
    refine WL.pure (v := vI (fA xs x : Int)) 36 rfl (Nat.le_of_ble_eq_true rfl) rfl rfl (by kernel_rfl) ?_
    refine WL.pure (v := .slice pv (fA xs x) cp) 37 rfl (Nat.le_of_ble_eq_true rfl) rfl rfl (x_sliceH (fA xs x) rfl rfl rfl Try.underlying58 rfl (by have := (row_cap (HP.get hH19 1 rfl)).1; omega) sz3) ?_
    have hO := HP.setSame hH19 3 (e' := row (some ⟨b17, 0, none⟩) 0 0 []) rfl (lit0 (HP.get hH19 3 rfl)) rfl
    have hH20 : HP (Out (SR l R pv cp xs)) w _ [.cel l #[.slice pv xs.length cp, vI R] 97, .own (.slice pv xs.length cp) xs.length (iL xs) 3 1, .own (.slice pc14 (xs.length - (fA xs x + 1)) qc14) (xs.length - (fA xs x + 1)) (iL (xs.drop (fA xs x + 1))) 3 1, .own (.slice (some ⟨b17, 0, none⟩) 0 0) 0 (iL []) 3 1] := hO
    obtain ⟨i0, hi0, hz0, hz1, hz2⟩ := infoI
    refine WL.appendSrc (k := 0) (m := fA xs x) (iL (xs.take (fA xs x))) 3 hH20 38 rfl (by decide) rfl rfl rfl rfl Try.underlying58 hi0 hz0 hz1 hz2 rfl (by decide) rfl (src_hi (HP.get hH20 1 rfl) (by omega)) (by simp; try omega) (iL_one _) (by unfold maxLen; omega) (by omega) ?_
    rintro vc21 wc21 - hBc21
    have hAc21 := HP.eq (H' := [.cel l #[.slice pv xs.length cp, vI R] 97, .own (.slice pv xs.length cp) xs.length (iL xs) 3 1, .own (.slice pc14 (xs.length - (fA xs x + 1)) qc14) (xs.length - (fA xs x + 1)) (iL (xs.drop (fA xs x + 1))) 3 1, .own vc21 (fA xs x) (iL (xs.take (fA xs x))) 3 1]) hBc21 (by simp [iL])
    obtain ⟨pc21, qc21, rfl, -⟩ := own_row (xs := (xs.take (fA xs x))) (HP.get hAc21 3 rfl) rfl
    have hH22 : HP (Out (SR l R pv cp xs)) w _ [.cel l #[.slice pv xs.length cp, vI R] 97, .own (.slice pv xs.length cp) xs.length (iL xs) 3 1, .own (.slice pc14 (xs.length - (fA xs x + 1)) qc14) (xs.length - (fA xs x + 1)) (iL (xs.drop (fA xs x + 1))) 3 1, .own (.slice pc21 (fA xs x) qc21) (fA xs x) (iL (xs.take (fA xs x))) 3 1] := hAc21
    refine WL.pure (v := .slice pc14 (xs.length - (fA xs x + 1)) qc14) 39 rfl (Nat.le_of_ble_eq_true rfl) rfl rfl (by kernel_rfl) ?_
    obtain ⟨i0, hi0, hz0, hz1, hz2⟩ := infoI
    refine WL.appendSrc (k := fA xs x) (m := xs.length - (fA xs x + 1)) (iL (xs.drop (fA xs x + 1))) 3 hH22 40 rfl (by decide) rfl rfl rfl rfl Try.underlying58 hi0 hz0 hz1 hz2 rfl (by decide) rfl (row_src (HP.get hH22 2 rfl)) (by simp) (iL_one _) (by unfold maxLen; omega) (by omega) ?_
    rintro vc23 wc23 - hBc23
    have hAc23 := HP.eq (H' := [.cel l #[.slice pv xs.length cp, vI R] 97, .own (.slice pv xs.length cp) xs.length (iL xs) 3 1, .own (.slice pc14 (xs.length - (fA xs x + 1)) qc14) (xs.length - (fA xs x + 1)) (iL (xs.drop (fA xs x + 1))) 3 1, .own vc23 (fA xs x + (xs.length - (fA xs x + 1))) (iL ((xs.take (fA xs x)) ++ (xs.drop (fA xs x + 1)))) 3 1]) hBc23 (by simp [iL])
    obtain ⟨pc23, qc23, rfl, -⟩ := own_row (xs := ((xs.take (fA xs x)) ++ (xs.drop (fA xs x + 1)))) (HP.get hAc23 3 rfl) rfl
    have hH24 : HP (Out (SR l R pv cp xs)) w _ [.cel l #[.slice pv xs.length cp, vI R] 97, .own (.slice pv xs.length cp) xs.length (iL xs) 3 1, .own (.slice pc14 (xs.length - (fA xs x + 1)) qc14) (xs.length - (fA xs x + 1)) (iL (xs.drop (fA xs x + 1))) 3 1, .own (.slice pc23 (fA xs x + (xs.length - (fA xs x + 1))) qc23) (fA xs x + (xs.length - (fA xs x + 1))) (iL ((xs.take (fA xs x)) ++ (xs.drop (fA xs x + 1)))) 3 1] := hAc23
    refine WL.pure (v := vP l 0) 41 rfl (Nat.le_of_ble_eq_true rfl) rfl rfl (by kernel_rfl) ?_
    refine WL.pure (v := vP l 0) 42 rfl (Nat.le_of_ble_eq_true rfl) rfl rfl (by kernel_rfl) ?_
    refine WL.store (H2 := [.cel l #[.slice pc23 (fA xs x + (xs.length - (fA xs x + 1))) qc23, vI R] 97, .own (.slice pv xs.length cp) xs.length (iL xs) 3 1, .own (.slice pc14 (xs.length - (fA xs x + 1)) qc14) (xs.length - (fA xs x + 1)) (iL (xs.drop (fA xs x + 1))) 3 1, .own (.slice pc23 (fA xs x + (xs.length - (fA xs x + 1))) qc23) (fA xs x + (xs.length - (fA xs x + 1))) (iL ((xs.take (fA xs x)) ++ (xs.drop (fA xs x + 1)))) 3 1]) 0 hH24 rfl rfl rfl rfl rfl rfl sz58 rfl (Nat.le_of_ble_eq_true rfl) rfl rfl ?_
    intro w25 hH26
    refine WL.nil ?_
    refine WQ.then ?_
    refine hK16 _ _ _ ?_
    refine WC.sub (l' := [(0, vP l 0), (1, vI x), (4, vI 0), (5, vI 0), (6, vI (fA xs x : Int)), (7, vI (fS xs x : Int)), (8, vI (fdE xs x)), (9, .slice pc14 (xs.length - (fA xs x + 1)) qc14), (18, .bool false)]) ⟨rfl, rfl, rfl, rfl, rfl, rfl, rfl, rfl, rfl, trivial⟩ ?_
    refine WC.seq fun K27 hK27 => ?_
    refine WC.region ?_
    refine WL.pure (v := vI (fS xs x : Int)) 43 rfl (Nat.le_of_ble_eq_true rfl) rfl rfl (by kernel_rfl) ?_
    refine WL.pure (v := .slice pc14 (xs.length - (fA xs x + 1)) qc14) 44 rfl (Nat.le_of_ble_eq_true rfl) rfl rfl (by kernel_rfl) ?_
    refine WL.pure (v := vI ((xs.length - (fA xs x + 1) : Nat) : Int)) 45 rfl (Nat.le_of_ble_eq_true rfl) rfl rfl (by kernel_rfl) ?_
    refine WL.pure (v := vI ((fS xs x : Int) + ((xs.length - 1 - fA xs x : Nat) : Int))) 46 rfl (Nat.le_of_ble_eq_true rfl) rfl rfl (x_add (Z := (fS xs x : Int) + ((xs.length - 1 - fA xs x : Nat) : Int)) rfl rfl rfl (by omega) (by omega) (by omega)) ?_
    refine WL.pure (v := vI ((fS xs x : Int) + ((xs.length - 1 - fA xs x : Nat) : Int))) 4 rfl (Nat.le_of_ble_eq_true rfl) rfl rfl (by kernel_rfl) ?_
    refine WL.pure (v := vI 0) 5 rfl (Nat.le_of_ble_eq_true rfl) rfl rfl (by kernel_rfl) ?_
    refine WL.nil ?_
    refine WQ.then ?_
    refine hK27 _ _ _ ?_
    refine WC.sub (l' := [(0, vP l 0), (1, vI x), (4, vI ((fS xs x : Int) + ((xs.length - 1 - fA xs x : Nat) : Int))), (5, vI 0), (6, vI (fA xs x : Int)), (7, vI (fS xs x : Int)), (8, vI (fdE xs x)), (9, .slice pc14 (xs.length - (fA xs x + 1)) qc14), (18, .bool false)]) ⟨rfl, rfl, rfl, rfl, rfl, rfl, rfl, rfl, rfl, trivial⟩ ?_
    refine WC.ret ?_
    refine WQ.ret2 4 5 rfl rfl rfl ?_
    have hfl : (fA xs x + (xs.length - (fA xs x + 1))) = xs.length - 1 := by omega
    have hfx : ((xs.take (fA xs x)) ++ (xs.drop (fA xs x + 1))) = del xs (fA xs x) := by simp [del]
    obtain ⟨pv2, hpv2⟩ : ∃ q, q = pc23 := ⟨_, rfl⟩
    obtain ⟨cp2, hcp2⟩ : ∃ q, q = qc23 := ⟨_, rfl⟩
    have hF0 := HP.sub hH26 (show List.Sublist (α := Ent) [.cel l #[.slice pc23 (fA xs x + (xs.length - (fA xs x + 1))) qc23, vI R] 97, .own (.slice pc23 (fA xs x + (xs.length - (fA xs x + 1))) qc23) (fA xs x + (xs.length - (fA xs x + 1))) (iL ((xs.take (fA xs x)) ++ (xs.drop (fA xs x + 1)))) 3 1] [.cel l #[.slice pc23 (fA xs x + (xs.length - (fA xs x + 1))) qc23, vI R] 97, .own (.slice pv xs.length cp) xs.length (iL xs) 3 1, .own (.slice pc14 (xs.length - (fA xs x + 1)) qc14) (xs.length - (fA xs x + 1)) (iL (xs.drop (fA xs x + 1))) 3 1, .own (.slice pc23 (fA xs x + (xs.length - (fA xs x + 1))) qc23) (fA xs x + (xs.length - (fA xs x + 1))) (iL ((xs.take (fA xs x)) ++ (xs.drop (fA xs x + 1)))) 3 1] by simp)
    have hF := hF0
    rw [hfl, hfx, ← hpv2, ← hcp2] at hF
    have q0 : fdE xs x = 0 := by omega
    have qs : rmS xs x = (fS xs x : Int) + ((xs.length - 1 - fA xs x : Nat) : Int) := by unfold rmS; rw [if_pos q0]
    have qx : rmX xs x = del xs (fA xs x) := by unfold rmX; rw [if_pos q0]
    have ql := len_del (xs := xs) (i := fA xs x) hlt
    refine ⟨pv2, cp2, by rw [qs, q0], ?_⟩
    rw [qx]
    exact HP.eq hF (by unfold SR; rw [ql] <;> rfl)
set_option maxRecDepth 20000 in
set_option maxHeartbeats 4000000 in
theorem sItems_any (l : Nat) (R : Int) (pv : Option Addr) (cp : Nat) (xs : List Int) (w : World) (hB : OwnB w (SB l R pv cp xs)) (hR : 1 ≤ R) (hn : xs.length ≤ 32) :
    Calls Try.prog 44 #[vP l 0] w (ItR w xs) := by
  obtain ⟨hc, hs, hh⟩ := SB_cells hB
  refine calls_of Try.func44 rfl (m := 9) rfl [(0, vP l 0)] (Fr_enter [vP l 0] 9 (Nat.le_of_ble_eq_true rfl)) ?_
  have hH1 : HP Tr w w [] := HP.refl w
  refine WC.seq fun K2 hK2 => ?_
  refine WC.region ?_
  refine WL.pure (v := .slice none 0 0) 2 rfl (Nat.le_of_ble_eq_true rfl) rfl rfl (by kernel_rfl) ?_
  refine WL.nil ?_
  refine WQ.then ?_
  refine hK2 _ _ _ ?_
  refine WC.seq fun K3 hK3 => ?_
  refine WC.seq fun K4 hK4 => ?_
  refine WC.region ?_
  refine WL.pure (v := vP l 0) 3 rfl (Nat.le_of_ble_eq_true rfl) rfl rfl (by kernel_rfl) ?_
  refine WL.call (f := 65) (args := #[vP l 0]) 4 rfl (Nat.le_of_ble_eq_true rfl) rfl rfl (by kernel_rfl) ?_
  refine (snone_any l R _ (HP.old hH1 trivial hc) hR).mono ?_
  rintro e w5 ⟨rfl, hb6⟩
  refine ⟨_, rfl, ?_⟩
  have hH7 : HP Tr w _ [] := HP.call hH1 hb6
  refine WL.nil ?_
  refine WQ.then ?_
  refine hK4 _ _ _ ?_
  refine WC.no rfl ?_
  refine WC.skip ?_
  refine WQ.then ?_
  refine hK3 _ _ _ ?_
  refine WC.seq fun K8 hK8 => ?_
  refine WC.region ?_
  refine WL.pure (v := vP l 0) 5 rfl (Nat.le_of_ble_eq_true rfl) rfl rfl (by kernel_rfl) ?_
  refine WL.pure (v := vP l 0) 6 rfl (Nat.le_of_ble_eq_true rfl) rfl rfl (by kernel_rfl) ?_
  refine WL.pure (v := vP l 0) 7 rfl (Nat.le_of_ble_eq_true rfl) rfl rfl (by kernel_rfl) ?_
  refine WL.call (f := 64) (args := #[vP l 0]) 8 rfl (Nat.le_of_ble_eq_true rfl) rfl rfl (by kernel_rfl) ?_
  refine (all_any l R pv cp xs _ (HP.old hH7 trivial hc) (HP.old hH7 trivial hs) (row_below (HP.below hH7) hh) hR hn).mono ?_
  rintro e w9 ⟨pv8, cp8, rfl, hb10⟩
  refine ⟨_, rfl, ?_⟩
  have hH11 : HP Tr w _ [.own (.slice pv8 xs.length cp8) xs.length (iL xs) 3 1] := HP.trans hH7 hb10
  refine WL.pure (v := .slice pv8 xs.length cp8) 2 rfl (Nat.le_of_ble_eq_true rfl) rfl rfl (by kernel_rfl) ?_
  refine WL.nil ?_
  refine WQ.then ?_
  refine hK8 _ _ _ ?_
  refine WC.sub (l' := [(0, vP l 0), (2, .slice pv8 xs.length cp8), (4, .bool false)]) ⟨rfl, rfl, rfl, trivial⟩ ?_
  refine WC.ret ?_
  refine WQ.ret1 2 rfl rfl ?_
  exact ⟨pv8, cp8, rfl, hH11⟩
set_option maxRecDepth 20000 in
set_option maxHeartbeats 4000000 in
theorem srItems_any (l : Nat) (R : Int) (pv : Option Addr) (cp : Nat) (xs : List Int) (w : World) (hB : OwnB w (SR l R pv cp xs)) (hR : 1 ≤ R) (hn : xs.length ≤ 32) :
    Calls Try.prog 45 #[vP l 0] w (ItR w xs) := by
  obtain ⟨hc, hs, hh⟩ := SR_cells hB
  refine calls_of Try.func45 rfl (m := 11) rfl [(0, vP l 0)] (Fr_enter [vP l 0] 11 (Nat.le_of_ble_eq_true rfl)) ?_
  have hH1 : HP Tr w w [] := HP.refl w
  refine WC.seq fun K2 hK2 => ?_
  refine WC.region ?_
  refine WL.pure (v := .slice none 0 0) 2 rfl (Nat.le_of_ble_eq_true rfl) rfl rfl (by kernel_rfl) ?_
  refine WL.nil ?_
  refine WQ.then ?_
  refine hK2 _ _ _ ?_
  refine WC.seq fun K3 hK3 => ?_
  refine WC.seq fun K4 hK4 => ?_
  refine WC.region ?_
  refine WL.pure (v := vP l 0) 3 rfl (Nat.le_of_ble_eq_true rfl) rfl rfl (by kernel_rfl) ?_
  refine WL.pure (v := .bool false) 4 rfl (Nat.le_of_ble_eq_true rfl) rfl rfl (by kernel_rfl) ?_
  refine WL.nil ?_
  refine WQ.then ?_
  refine hK4 _ _ _ ?_
  refine WC.no rfl ?_
  refine WC.skip ?_
  refine WQ.then ?_
  refine hK3 _ _ _ ?_
  refine WC.seq fun K5 hK5 => ?_
  refine WC.region ?_
  refine WL.alloc (c := #[]) (T := 3) hH1 5 rfl (by decide) rfl rfl (fun b6 => vS b6 0 0) (by kernel_rfl) (fun b6 w7 hw7 => ?_)
  have hH8 : HP Tr w w7 [.cel b6 #[] 3] := hw7.2
  have nb6 := hw7.1
  clear hw7
  refine WL.pure (v := vP l 0) 6 rfl (Nat.le_of_ble_eq_true rfl) rfl rfl (by kernel_rfl) ?_
  refine WL.pure (v := vP l 0) 7 rfl (Nat.le_of_ble_eq_true rfl) rfl rfl (by kernel_rfl) ?_
  refine WL.pure (v := vP l 0) 8 rfl (Nat.le_of_ble_eq_true rfl) rfl rfl (by kernel_rfl) ?_
  refine WL.pure (v := .slice pv xs.length cp) 9 rfl (Nat.le_of_ble_eq_true rfl) rfl rfl (x_load rfl rfl Try.underlying58 rfl (HP.old hH8 trivial hs)) ?_
  have hO := HP.setSame hH8 0 (e' := row (some ⟨b6, 0, none⟩) 0 0 []) rfl (lit0 (HP.get hH8 0 rfl)) rfl
  have hH9 : HP Tr w _ [.own (.slice (some ⟨b6, 0, none⟩) 0 0) 0 (iL []) 3 1] := hO
  obtain ⟨i0, hi0, hz0, hz1, hz2⟩ := infoI
  refine WL.appendSrc (iL xs) 0 hH9 10 rfl (by decide) rfl rfl rfl rfl Try.underlying58 hi0 hz0 hz1 hz2 rfl (by decide) rfl (row_src (row_below (HP.below hH9) hh)) (by simp [iL]) (iL_one xs) (by unfold maxLen; omega) (by omega) ?_
  rintro v8 w8 - hA8
  have hA7 := HP.eq (H' := [.own v8 xs.length (iL xs) 3 1]) hA8 (by rw [Nat.zero_add]; rfl)
  obtain ⟨pv8, cp8, rfl, -⟩ := own_row (xs := xs) (HP.get hA7 0 rfl) rfl
  have hH10 : HP Tr w _ [.own (.slice pv8 xs.length cp8) xs.length (iL xs) 3 1] := hA7
  refine WL.pure (v := .slice pv8 xs.length cp8) 2 rfl (Nat.le_of_ble_eq_true rfl) rfl rfl (by kernel_rfl) ?_
  refine WL.nil ?_
  refine WQ.then ?_
  refine hK5 _ _ _ ?_
  refine WC.sub (l' := [(0, vP l 0), (2, .slice pv8 xs.length cp8), (4, .bool false)]) ⟨rfl, rfl, rfl, trivial⟩ ?_
  refine WC.ret ?_
  refine WQ.ret1 2 rfl rfl ?_
  exact ⟨pv8, cp8, rfl, hA7⟩
set_option maxRecDepth 20000 in
set_option maxHeartbeats 4000000 in
theorem snone_nil (w : World) :
    Calls Try.prog 65 #[.pointer none] w fun e w' => e = .returned (.bool true) ∧ Below w.heap.size w w' := by
  refine calls_of Try.func65 rfl (m := 11) rfl [(0, .pointer none)] (Fr_enter [.pointer none] 11 (Nat.le_of_ble_eq_true rfl)) ?_
  have hH1 : HP Tr w w [] := HP.refl w
  refine WC.seq fun K2 hK2 => ?_
  refine WC.region ?_
  refine WL.pure (v := .bool false) 2 rfl (Nat.le_of_ble_eq_true rfl) rfl rfl (by kernel_rfl) ?_
  refine WL.nil ?_
  refine WQ.then ?_
  refine hK2 _ _ _ ?_
  refine WC.seq fun K3 hK3 => ?_
  refine WC.region ?_
  refine WL.pure (v := .pointer none) 3 rfl (Nat.le_of_ble_eq_true rfl) rfl rfl (by kernel_rfl) ?_
  refine WL.pure (v := .bool true) 4 rfl (Nat.le_of_ble_eq_true rfl) rfl rfl (by kernel_rfl) ?_
  refine WL.pure (v := .bool true) 5 rfl (Nat.le_of_ble_eq_true rfl) rfl rfl (by kernel_rfl) ?_
  refine WL.pass 6 rfl (Nat.le_of_ble_eq_true rfl) rfl ?_
  refine WL.pass 7 rfl (Nat.le_of_ble_eq_true rfl) rfl ?_
  refine WL.pass 8 rfl (Nat.le_of_ble_eq_true rfl) rfl ?_
  refine WL.pass 9 rfl (Nat.le_of_ble_eq_true rfl) rfl ?_
  refine WL.pure (v := .bool true) 10 rfl (Nat.le_of_ble_eq_true rfl) rfl rfl (by kernel_rfl) ?_
  refine WL.pure (v := .bool true) 2 rfl (Nat.le_of_ble_eq_true rfl) rfl rfl (by kernel_rfl) ?_
  refine WL.nil ?_
  refine WQ.then ?_
  refine hK3 _ _ _ ?_
  refine WC.sub (l' := [(0, .pointer none), (2, .bool true)]) ⟨rfl, rfl, trivial⟩ ?_
  refine WC.ret ?_
  refine WQ.ret1 2 rfl rfl ?_
  exact ⟨rfl, HP.below hH1⟩
set_option maxRecDepth 20000 in
set_option maxHeartbeats 4000000 in
theorem sItems_nil (w : World) :
    Calls Try.prog 44 #[.pointer none] w fun e w' => e = .returned (.slice none 0 0) ∧ Below w.heap.size w w' := by
  refine calls_of Try.func44 rfl (m := 9) rfl [(0, .pointer none)] (Fr_enter [.pointer none] 9 (Nat.le_of_ble_eq_true rfl)) ?_
  have hH1 : HP Tr w w [] := HP.refl w
  refine WC.seq fun K2 hK2 => ?_
  refine WC.region ?_
  refine WL.pure (v := .slice none 0 0) 2 rfl (Nat.le_of_ble_eq_true rfl) rfl rfl (by kernel_rfl) ?_
  refine WL.nil ?_
  refine WQ.then ?_
  refine hK2 _ _ _ ?_
  refine WC.seq fun K3 hK3 => ?_
  refine WC.seq fun K4 hK4 => ?_
  refine WC.region ?_
  refine WL.pure (v := .pointer none) 3 rfl (Nat.le_of_ble_eq_true rfl) rfl rfl (by kernel_rfl) ?_
  refine WL.call (f := 65) (args := #[.pointer none]) 4 rfl (Nat.le_of_ble_eq_true rfl) rfl rfl (by kernel_rfl) ?_
  refine (snone_nil _).mono ?_
  rintro e w5 ⟨rfl, hb6⟩
  refine ⟨_, rfl, ?_⟩
  have hH7 : HP Tr w _ [] := HP.call hH1 hb6
  refine WL.nil ?_
  refine WQ.then ?_
  refine hK4 _ _ _ ?_
  refine WC.yes rfl ?_
  refine WC.seq fun K8 hK8 => ?_
  refine WC.region ?_
  refine WL.pure (v := .slice none 0 0) 2 rfl (Nat.le_of_ble_eq_true rfl) rfl rfl (by kernel_rfl) ?_
  refine WL.nil ?_
  refine WQ.then ?_
  refine hK8 _ _ _ ?_
  refine WC.ret ?_
  refine WQ.thenRet ?_
  refine WQ.ret1 2 rfl rfl ?_
  exact ⟨rfl, HP.below hH7⟩
set_option maxRecDepth 20000 in
set_option maxHeartbeats 4000000 in
theorem srItems_nil (w : World) :
    Calls Try.prog 45 #[.pointer none] w fun e w' => e = .returned (.slice none 0 0) ∧ Below w.heap.size w w' := by
  refine calls_of Try.func45 rfl (m := 11) rfl [(0, .pointer none)] (Fr_enter [.pointer none] 11 (Nat.le_of_ble_eq_true rfl)) ?_
  have hH1 : HP Tr w w [] := HP.refl w
  refine WC.seq fun K2 hK2 => ?_
  refine WC.region ?_
  refine WL.pure (v := .slice none 0 0) 2 rfl (Nat.le_of_ble_eq_true rfl) rfl rfl (by kernel_rfl) ?_
  refine WL.nil ?_
  refine WQ.then ?_
  refine hK2 _ _ _ ?_
  refine WC.seq fun K3 hK3 => ?_
  refine WC.seq fun K4 hK4 => ?_
  refine WC.region ?_
  refine WL.pure (v := .pointer none) 3 rfl (Nat.le_of_ble_eq_true rfl) rfl rfl (by kernel_rfl) ?_
  refine WL.pure (v := .bool true) 4 rfl (Nat.le_of_ble_eq_true rfl) rfl rfl (by kernel_rfl) ?_
  refine WL.nil ?_
  refine WQ.then ?_
  refine hK4 _ _ _ ?_
  refine WC.yes rfl ?_
  refine WC.seq fun K5 hK5 => ?_
  refine WC.region ?_
  refine WL.pure (v := .slice none 0 0) 2 rfl (Nat.le_of_ble_eq_true rfl) rfl rfl (by kernel_rfl) ?_
  refine WL.nil ?_
  refine WQ.then ?_
  refine hK5 _ _ _ ?_
  refine WC.ret ?_
  refine WQ.thenRet ?_
  refine WQ.ret1 2 rfl rfl ?_
  exact ⟨rfl, HP.below hH1⟩
set_option maxRecDepth 20000 in
set_option maxHeartbeats 4000000 in
theorem NewSorted_any (n : Int) (w : World) :
    Calls Try.prog 35 #[vI n] w fun e w' => (rm n = false ∧ e = .returned (.tuple #[.pointer none, vI 1]) ∧ Below w.heap.size w w') ∨ (rm n = true ∧ ∃ l, e = .returned (.tuple #[vP l 0, vI 0]) ∧ HP Tr w w' (SB l n none 0 [])) := by
  refine calls_of Try.func35 rfl (m := 11) rfl [(0, vI n)] (Fr_enter [vI n] 11 (Nat.le_of_ble_eq_true rfl)) ?_
  have hH1 : HP Tr w w [] := HP.refl w
  refine WC.seq fun K2 hK2 => ?_
  refine WC.region ?_
  refine WL.pure (v := .pointer none) 2 rfl (Nat.le_of_ble_eq_true rfl) rfl rfl (by kernel_rfl) ?_
  refine WL.pure (v := vI 0) 3 rfl (Nat.le_of_ble_eq_true rfl) rfl rfl (by kernel_rfl) ?_
  refine WL.nil ?_
  refine WQ.then ?_
  refine hK2 _ _ _ ?_
  refine WC.seq fun K3 hK3 => ?_
  refine WC.seq fun K4 hK4 => ?_
  refine WC.region ?_
  refine WL.pure (v := vI n) 4 rfl (Nat.le_of_ble_eq_true rfl) rfl rfl (by kernel_rfl) ?_
  rcases Bool.eq_false_or_eq_true (rm n) with hr | hr
  ·
    have q := isRoom_any n
    rw [hr] at q
    refine WL.call (f := 49) (args := #[vI n]) 5 rfl (Nat.le_of_ble_eq_true rfl) rfl rfl (by kernel_rfl) ?_
    refine (q _).mono ?_
    rintro e w5 ⟨rfl, rfl⟩
    refine ⟨_, rfl, ?_⟩
    refine WL.pure (v := .bool false) 6 rfl (Nat.le_of_ble_eq_true rfl) rfl rfl (by kernel_rfl) ?_
    refine WL.nil ?_
    refine WQ.then ?_
    refine hK4 _ _ _ ?_
    refine WC.no rfl ?_
    refine WC.skip ?_
    refine WQ.then ?_
    refine hK3 _ _ _ ?_
    refine WC.seq fun K6 hK6 => ?_
    refine WC.region ?_
    refine WL.pure (v := vI n) 7 rfl (Nat.le_of_ble_eq_true rfl) rfl rfl (by kernel_rfl) ?_
    refine WL.pure (v := .agg #[vI n, .slice none 0 0]) 8 rfl (Nat.le_of_ble_eq_true rfl) rfl rfl (by kernel_rfl) ?_
    refine WL.pure (v := .agg #[vI n, .slice none 0 0]) 9 rfl (Nat.le_of_ble_eq_true rfl) rfl rfl (by kernel_rfl) ?_
    refine WL.alloc (c := #[vI n, .slice none 0 0]) (T := 96) hH1 10 rfl (by decide) rfl rfl (fun bl => vP bl 0) (by kernel_rfl) (fun bl w7 hw7 => ?_)
    have hH8 : HP Tr w w7 [.cel bl #[vI n, .slice none 0 0] 96] := hw7.2
    have nbl := hw7.1
    clear hw7
    refine WL.pure (v := vP bl 0) 2 rfl (Nat.le_of_ble_eq_true rfl) rfl rfl (by kernel_rfl) ?_
    refine WL.pure (v := vI 0) 3 rfl (Nat.le_of_ble_eq_true rfl) rfl rfl (by kernel_rfl) ?_
    refine WL.nil ?_
    refine WQ.then ?_
    refine hK6 _ _ _ ?_
    refine WC.sub (l' := [(0, vI n), (2, vP bl 0), (3, vI 0), (6, .bool false)]) ⟨rfl, rfl, rfl, rfl, trivial⟩ ?_
    refine WC.ret ?_
    refine WQ.ret2 2 3 rfl rfl rfl ?_
    exact .inr ⟨hr, bl, rfl, HP.ownNil hH8 3 1⟩
  ·
    have q := isRoom_any n
    rw [hr] at q
    refine WL.call (f := 49) (args := #[vI n]) 5 rfl (Nat.le_of_ble_eq_true rfl) rfl rfl (by kernel_rfl) ?_
    refine (q _).mono ?_
    rintro e w9 ⟨rfl, rfl⟩
    refine ⟨_, rfl, ?_⟩
    refine WL.pure (v := .bool true) 6 rfl (Nat.le_of_ble_eq_true rfl) rfl rfl (by kernel_rfl) ?_
    refine WL.nil ?_
    refine WQ.then ?_
    refine hK4 _ _ _ ?_
    refine WC.yes rfl ?_
    refine WC.seq fun K10 hK10 => ?_
    refine WC.region ?_
    refine WL.pure (v := .pointer none) 2 rfl (Nat.le_of_ble_eq_true rfl) rfl rfl (by kernel_rfl) ?_
    refine WL.pure (v := vI 1) 3 rfl (Nat.le_of_ble_eq_true rfl) rfl rfl (by kernel_rfl) ?_
    refine WL.nil ?_
    refine WQ.then ?_
    refine hK10 _ _ _ ?_
    refine WC.ret ?_
    refine WQ.thenRet ?_
    refine WQ.ret2 2 3 rfl rfl rfl ?_
    exact .inl ⟨hr, rfl, HP.below hH1⟩
set_option maxRecDepth 20000 in
set_option maxHeartbeats 4000000 in
theorem rNewSorted_any (n : Int) (w : World) :
    Calls Try.prog 36 #[vI n] w fun e w' => (rm n = false ∧ e = .returned (.tuple #[.pointer none, vI 1]) ∧ Below w.heap.size w w') ∨ (rm n = true ∧ ∃ l, e = .returned (.tuple #[vP l 0, vI 0]) ∧ HP Tr w w' (SR l n none 0 [])) := by
  refine calls_of Try.func36 rfl (m := 10) rfl [(0, vI n)] (Fr_enter [vI n] 10 (Nat.le_of_ble_eq_true rfl)) ?_
  have hH1 : HP Tr w w [] := HP.refl w
  refine WC.seq fun K2 hK2 => ?_
  refine WC.region ?_
  refine WL.pure (v := .pointer none) 2 rfl (Nat.le_of_ble_eq_true rfl) rfl rfl (by kernel_rfl) ?_
  refine WL.pure (v := vI 0) 3 rfl (Nat.le_of_ble_eq_true rfl) rfl rfl (by kernel_rfl) ?_
  refine WL.nil ?_
  refine WQ.then ?_
  refine hK2 _ _ _ ?_
  refine WC.seq fun K3 hK3 => ?_
  refine WC.seq fun K4 hK4 => ?_
  refine WC.region ?_
  refine WL.pure (v := vI n) 4 rfl (Nat.le_of_ble_eq_true rfl) rfl rfl (by kernel_rfl) ?_
  rcases Bool.eq_false_or_eq_true (rm n) with hr | hr
  ·
    have q := rroom_any n
    rw [hr] at q
    refine WL.call (f := 55) (args := #[vI n]) 5 rfl (Nat.le_of_ble_eq_true rfl) rfl rfl (by kernel_rfl) ?_
    refine (q _).mono ?_
    rintro e w5 ⟨rfl, rfl⟩
    refine ⟨_, rfl, ?_⟩
    refine WL.pure (v := .bool false) 6 rfl (Nat.le_of_ble_eq_true rfl) rfl rfl (by kernel_rfl) ?_
    refine WL.nil ?_
    refine WQ.then ?_
    refine hK4 _ _ _ ?_
    refine WC.no rfl ?_
    refine WC.skip ?_
    refine WQ.then ?_
    refine hK3 _ _ _ ?_
    refine WC.seq fun K6 hK6 => ?_
    refine WC.region ?_
    refine WL.pure (v := vI n) 7 rfl (Nat.le_of_ble_eq_true rfl) rfl rfl (by kernel_rfl) ?_
    refine WL.pure (v := .agg #[.slice none 0 0, vI n]) 8 rfl (Nat.le_of_ble_eq_true rfl) rfl rfl (by kernel_rfl) ?_
    refine WL.alloc (c := #[.slice none 0 0, vI n]) (T := 97) hH1 9 rfl (by decide) rfl rfl (fun bl => vP bl 0) (by kernel_rfl) (fun bl w7 hw7 => ?_)
    have hH8 : HP Tr w w7 [.cel bl #[.slice none 0 0, vI n] 97] := hw7.2
    have nbl := hw7.1
    clear hw7
    refine WL.pure (v := vP bl 0) 2 rfl (Nat.le_of_ble_eq_true rfl) rfl rfl (by kernel_rfl) ?_
    refine WL.pure (v := vI 0) 3 rfl (Nat.le_of_ble_eq_true rfl) rfl rfl (by kernel_rfl) ?_
    refine WL.nil ?_
    refine WQ.then ?_
    refine hK6 _ _ _ ?_
    refine WC.sub (l' := [(0, vI n), (2, vP bl 0), (3, vI 0), (6, .bool false)]) ⟨rfl, rfl, rfl, rfl, trivial⟩ ?_
    refine WC.ret ?_
    refine WQ.ret2 2 3 rfl rfl rfl ?_
    exact .inr ⟨hr, bl, rfl, HP.ownNil hH8 3 1⟩
  ·
    have q := rroom_any n
    rw [hr] at q
    refine WL.call (f := 55) (args := #[vI n]) 5 rfl (Nat.le_of_ble_eq_true rfl) rfl rfl (by kernel_rfl) ?_
    refine (q _).mono ?_
    rintro e w9 ⟨rfl, rfl⟩
    refine ⟨_, rfl, ?_⟩
    refine WL.pure (v := .bool true) 6 rfl (Nat.le_of_ble_eq_true rfl) rfl rfl (by kernel_rfl) ?_
    refine WL.nil ?_
    refine WQ.then ?_
    refine hK4 _ _ _ ?_
    refine WC.yes rfl ?_
    refine WC.seq fun K10 hK10 => ?_
    refine WC.region ?_
    refine WL.pure (v := .pointer none) 2 rfl (Nat.le_of_ble_eq_true rfl) rfl rfl (by kernel_rfl) ?_
    refine WL.pure (v := vI 1) 3 rfl (Nat.le_of_ble_eq_true rfl) rfl rfl (by kernel_rfl) ?_
    refine WL.nil ?_
    refine WQ.then ?_
    refine hK10 _ _ _ ?_
    refine WC.ret ?_
    refine WQ.thenRet ?_
    refine WQ.ret2 2 3 rfl rfl rfl ?_
    exact .inl ⟨hr, rfl, HP.below hH1⟩
end Lb
end Go.Proofs.Ytgdfbpphfanocaa
