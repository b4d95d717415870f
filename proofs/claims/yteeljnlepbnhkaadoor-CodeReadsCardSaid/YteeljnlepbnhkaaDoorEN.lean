/- The program: Name, Operands. -/
import Derived.Test.YteeljnlepbnhkaaDoorED
set_option linter.unusedVariables false
set_option linter.unusedSimpArgs false
namespace Go.Proofs.YteeljnlepbnhkaaDoor
open Go.RowKit Go.Sort
namespace Ec

def opE (op : Int) : Int := if 0 ≤ op ∧ op < 36 then 0 else 3
def opN (op : Int) : Int := if 0 ≤ op ∧ op < 36 then opd op.toNat else 0
def nmS (op : Int) : ByteArray := if 0 ≤ op ∧ op < 36 then (sp op.toNat).n else ⟨#[]⟩
theorem ret_si {k : IntKind} {a b : ByteArray} {c d : Int} (h : a = b) (h2 : c = d) : Ending.returned (.tuple #[.string a, .int k c]) = .returned (.tuple #[.string b, .int k d]) := by rw [h, h2]
theorem Operands_any (op : Int) (w : World) : Calls Tryd.prog 47 #[.int .i64 op] w fun e w' => e = .returned (.tuple #[.int .i64 (opN op), .int .i64 (opE op)]) ∧ Below w.heap.size w w' := by
  by_cases hop : 0 ≤ op ∧ op < 36
  · obtain ⟨k, rfl⟩ : ∃ k : Nat, op = (k : Int) := ⟨op.toNat, by omega⟩
    have hk : k < 36 := by omega
    have H1 := hide (show opN (k : Int) = opd k by unfold opN; rw [if_pos hop, Int.toNat_natCast])
    have H2 := hide (show opE (k : Int) = 0 by unfold opE; rw [if_pos hop])
    have H3 := hide (show opd k = if (sp k).b = 0 then (if (sp k).a = 0 then 0 else 1) else 2 from rfl)
    clear hop
    by_cases hb0 : (sp k).b = 0
    · by_cases ha0 : (sp k).a = 0
      · have HO := hide (show opd k = 0 by rw [H3.out, if_pos hb0, if_pos ha0])
        have hkn := known_ok k hk
        rw [hb0, ha0] at hkn
        have Hk := hide hkn
        clear hb0 ha0 hkn
        go_enter Tryd.func47, Tryd.ntmps47
        go_wp2_with fail
        refine (Hk.out _).mono ?_
        rintro e w1 ⟨rfl, hb⟩
        have hsz := hb.size
        go_wp2_with fail
        go_ret2
        exact ⟨ret2_i (by rw [H1.out, HO.out]) (by rw [H2.out]), by go_grown⟩
      · have HO := hide (show opd k = 1 by rw [H3.out, if_pos hb0, if_neg ha0])
        have ha1 : ((sp k).a != 0) = true := by simpa using ha0
        have hkn := known_ok k hk
        rw [hb0] at hkn
        have Hk := hide hkn
        clear hb0 hkn
        go_enter Tryd.func47, Tryd.ntmps47
        go_wp2_with fail
        refine (Hk.out _).mono ?_
        rintro e w1 ⟨rfl, hb⟩
        have hsz := hb.size
        go_wp2_with fail
        go_ret2
        exact ⟨ret2_i (by rw [H1.out, HO.out]) (by rw [H2.out]), by go_grown⟩
    · have HO := hide (show opd k = 2 by rw [H3.out, if_neg hb0])
      have hb1 : ((sp k).b != 0) = true := by simpa using hb0
      go_enter Tryd.func47, Tryd.ntmps47
      go_wp2_with fail
      refine (known_ok k hk _).mono ?_
      rintro e w1 ⟨rfl, hb⟩
      have hsz := hb.size
      go_wp2_with fail
      go_ret2
      exact ⟨ret2_i (by rw [H1.out, HO.out]) (by rw [H2.out]), by go_grown⟩
  · have Hop : Hid (op < 0 ∨ (0 ≤ op ∧ 36 ≤ op)) := ⟨by omega⟩
    have H1 := hide (show opN op = 0 by unfold opN; rw [if_neg hop])
    have H2 := hide (show opE op = 3 by unfold opE; rw [if_neg hop])
    clear hop
    go_enter Tryd.func47, Tryd.ntmps47
    go_wp2_with fail
    refine (known_bad op Hop.out _).mono ?_
    rintro e w1 ⟨rfl, hb⟩
    have hsz := hb.size
    go_wp2_with fail
    go_ret2
    exact ⟨ret2_i (by rw [H1.out]) (by rw [H2.out]), by go_grown⟩
end Ec
end Go.Proofs.YteeljnlepbnhkaaDoor
