/- The program's table: NewTable and Put. -/
import Derived.Test.YtgdfbpphfanocaaCT
import Derived.Deep.Heap
import Derived.Laws.AppendOwn
set_option linter.unusedVariables false
set_option linter.unusedSimpArgs false
namespace Go.Proofs.Ytgdfbpphfanocaa
open Go.RowKit Go.Sort
namespace Lc

/-- only block c, and new ones, may have changed -/
structure Chg (c : Nat) (w w' : World) : Prop where
  size : w.heap.size ≤ w'.heap.size
  block : ∀ p, p < w.heap.size → p ≠ c → w'.heap[p]? = w.heap[p]?
  below : ∀ B, B ≤ c → B ≤ w.heap.size → Below B w w'
theorem Chg.cell {c : Nat} {w w' : World} (h : Chg c w w') (p k : Nat) (hp : p < w.heap.size) (hc : p ≠ c) : w'.cell? ⟨p, k, none⟩ = w.cell? ⟨p, k, none⟩ := World.cell?_of_block (a := ⟨p, k, none⟩) (h.block p hp hc)
theorem Chg.frozen {c : Nat} {w w' : World} (h : Chg c w w') (p k : Nat) (hp : p < w.heap.size) (hc : p ≠ c) : w'.frozen? ⟨p, k, none⟩ = w.frozen? ⟨p, k, none⟩ := World.frozen?_of_block (a := ⟨p, k, none⟩) (h.block p hp hc)
theorem Chg.of_below {c : Nat} {w w' : World} (h : Below w.heap.size w w') : Chg c w w' :=
  ⟨h.size, fun p hp _ => h.block p hp, fun B _ hB => h.mono hB⟩
def upd (t : Nat → Cl) (i : Nat) (x : Cl) : Nat → Cl := fun j => if j = i then x else t j
theorem Tab.set {w : World} {b c n : Nat} {t : Nat → Cl} (h : Tab w b c n t) (i : Nat) (hi : i < n) (x : Cl) :
    Tab (((w.setCell ⟨c, i * 3, none⟩ (.bool x.u)).setCell ⟨c, i * 3 + 1, none⟩ (.int .i64 x.k)).setCell ⟨c, i * 3 + 2, none⟩ (.int .i64 x.v)) b c n (upd t i x) ∧
    Chg c w (((w.setCell ⟨c, i * 3, none⟩ (.bool x.u)).setCell ⟨c, i * 3 + 1, none⟩ (.int .i64 x.k)).setCell ⟨c, i * 3 + 2, none⟩ (.int .i64 x.v)) := by
  have hu := h.u i hi
  have hk := h.k i hi
  have hv := h.v i hi
  have ne := h.ne
  have ne' := h.ne.symm
  have o : ∀ (W : World) (f k : Nat) (v : Value), f ≠ k → (W.setCell ⟨c, f, none⟩ v).cell? ⟨c, k, none⟩ = W.cell? ⟨c, k, none⟩ := fun W f k v hfk => World.cell?_setCell_other _ _ _ _ (by intro e; injection e; contradiction)
  have q : ∀ (W : World) (f p k : Nat) (v : Value), p ≠ c → (W.setCell ⟨c, f, none⟩ v).cell? ⟨p, k, none⟩ = W.cell? ⟨p, k, none⟩ := fun W f p k v hpc => World.cell?_setCell_other _ _ _ _ (by intro e; injection e with e1; exact hpc e1.symm)
  have r : ∀ (W : World) (f : Nat) (x : Addr) (v : Value), (W.setCell ⟨c, f, none⟩ v).frozen? x = W.frozen? x := fun W f x v => World.frozen?_setCell _ _ _ _
  have z : ∀ (W : World) (f : Nat) (v : Value), (W.setCell ⟨c, f, none⟩ v).heap.size = W.heap.size := fun W f v => by simp [go_sem]
  refine ⟨⟨?_, fun j hj => ?_, fun j hj => ?_, fun j hj => ?_, fun j hj => ?_, fun j hj => ?_, fun j hj => ?_, ne, ?_, ?_⟩, ⟨?_, fun p _ hp => ?_, fun B hB hB2 => ?_⟩⟩
  · rw [q _ _ _ _ _ ne, q _ _ _ _ _ ne, q _ _ _ _ _ ne]; exact h.s
  · by_cases e : j = i
    · subst e; rw [o _ _ _ _ (by omega), o _ _ _ _ (by omega), World.cell?_setCell_same _ _ _ hu]; simp [upd]
    · rw [o _ _ _ _ (by omega), o _ _ _ _ (by omega), o _ _ _ _ (by omega)]; simp [upd, e]; exact h.u j hj
  · by_cases e : j = i
    · subst e; rw [o _ _ _ _ (by omega), World.cell?_setCell_same _ _ _ (u := .int .i64 (t j).k) (by rw [o _ _ _ _ (by omega)]; exact hk)]; simp [upd]
    · rw [o _ _ _ _ (by omega), o _ _ _ _ (by omega), o _ _ _ _ (by omega)]; simp [upd, e]; exact h.k j hj
  · by_cases e : j = i
    · subst e; rw [World.cell?_setCell_same _ _ _ (u := .int .i64 (t j).v) (by rw [o _ _ _ _ (by omega), o _ _ _ _ (by omega)]; exact hv)]; simp [upd]
    · rw [o _ _ _ _ (by omega), o _ _ _ _ (by omega), o _ _ _ _ (by omega)]; simp [upd, e]; exact h.v j hj
  · rw [r, r, r]; exact h.f0 j hj
  · rw [r, r, r]; exact h.f1 j hj
  · rw [r, r, r]; exact h.f2 j hj
  · rw [z, z, z]; exact h.bz
  · rw [z, z, z]; exact h.cz
  · rw [z, z, z]; exact Nat.le_refl _
  · rw [Go.Deep.blk_setCell_other _ _ _ _ hp, Go.Deep.blk_setCell_other _ _ _ _ hp, Go.Deep.blk_setCell_other _ _ _ _ hp]
  · exact (((Below.refl B w).setCell (show B ≤ c from hB) _).setCell (show B ≤ c from hB) _).setCell (show B ≤ c from hB) _
theorem Chg.trans {c : Nat} {w w1 w2 : World} (h : Chg c w w1) (g : Chg c w1 w2) : Chg c w w2 :=
  ⟨Nat.le_trans h.size g.size, fun p hp hc => (g.block p (Nat.lt_of_lt_of_le hp h.size) hc).trans (h.block p hp hc),
   fun B hB hB2 => (h.below B hB hB2).trans (g.below B hB (Nat.le_trans hB2 h.size))⟩
theorem fnd_bd (t : Nat → Cl) (n : Nat) (key : Int) (hn : 1 ≤ n) : -1 ≤ (fnd t n key).1 ∧ (fnd t n key).1 < n ∧ 1 ≤ (fnd t n key).2 ∧ (fnd t n key).2 ≤ n := by
  unfold fnd
  split
  · rename_i h
    have := atk_lt n key (sc (hit t n key) n 0) hn
    refine ⟨by show -1 ≤ (atk n key _ : Int); omega, by show (atk n key _ : Int) < n; omega, by show 1 ≤ (sc (hit t n key) n 0 : Int) + 1; omega, by show (sc (hit t n key) n 0 : Int) + 1 ≤ n; omega⟩
  · exact ⟨by show (-1 : Int) ≤ -1; omega, by show (-1 : Int) < n; omega, by show (1 : Int) ≤ n; omega, by show (n : Int) ≤ n; omega⟩
def put (t : Nat → Cl) (n : Nat) (key v : Int) : Nat → Cl := if (fnd t n key).1 < 0 then t else upd t (fnd t n key).1.toNat ⟨true, key, v⟩
def putE (t : Nat → Cl) (n : Nat) (key : Int) : Int := if (fnd t n key).1 < 0 then 14 else 0
theorem Put_any (b c n : Nat) (t : Nat → Cl) (key v : Int) (w : World) (h : Tab w b c n t) (hn : 1 ≤ n) (hn2 : n ≤ 32) (hk : -2147483648 ≤ key ∧ key ≤ 2147483647) (hv : -2147483648 ≤ v ∧ v ≤ 2147483647) :
    Calls Try.prog 12 #[.pointer (some ⟨b, 0, none⟩), .int .i64 key, .int .i64 v] w fun e w' => e = .returned (.tuple #[.int .i64 (fnd t n key).2, .int .i64 (putE t n key)]) ∧ Tab w' b c n (put t n key v) ∧ Chg c w w' := by
  have HK := hide (show (decide (-2147483648 ≤ key) && decide (key ≤ 2147483647)) = true by simp [hk])
  have HV := hide (show (decide (-2147483648 ≤ v) && decide (v ≤ 2147483647)) = true by simp [hv])
  obtain ⟨b1, b2, b3, b4⟩ := fnd_bd t n key hn
  have HPE := hide (show putE t n key = if (fnd t n key).1 < 0 then 14 else 0 from rfl)
  have HP := hide (show put t n key v = if (fnd t n key).1 < 0 then t else upd t (fnd t n key).1.toNat ⟨true, key, v⟩ from rfl)
  go_enter Try.func12, Try.ntmps12
  go_wp2_with fail
  refine (none_any b c n t _ h hn hn2).mono ?_
  rintro e ws ⟨rfl, rfl⟩
  go_wp2_with fail
  refine (isWord_any key _).mono ?_
  rintro e ws ⟨rfl, rfl⟩
  rw [HK.out]
  go_wp2_with fail
  refine (isWord_any v _).mono ?_
  rintro e ws ⟨rfl, rfl⟩
  rw [HV.out]
  go_wp2_with fail
  refine (find_any b c n t key _ h hn hn2 hk).mono ?_
  rintro e w1 ⟨rfl, hb⟩
  have h1 := h.below hb
  have hc1 := Chg.of_below (c := c) hb
  by_cases hneg : (fnd t n key).1 < 0
  · rw [if_pos hneg] at HPE HP
    go_wp2_with fail
    go_ret2
    refine ⟨ret2_i rfl (by rw [HPE.out]), ?_, hc1⟩
    rw [HP.out]; exact h1
  · rw [if_neg hneg] at HPE HP
    obtain ⟨i, hi⟩ : ∃ i : Nat, (fnd t n key).1 = (i : Int) := ⟨(fnd t n key).1.toNat, by omega⟩
    have hin : i < n := by omega
    have hT := h1.set i hin ⟨true, key, v⟩
    have hs := h1.s
    have u0 := h1.u i hin
    have u1 := h1.k i hin
    have u2 := h1.v i hin
    have g0 := h1.f0 i hin
    have g1 := h1.f1 i hin
    have g2 := h1.f2 i hin
    rw [hi] at hneg HP b1 b2 ⊢
    rw [Int.toNat_natCast] at HP
    have hin2 : (i : Int) < (n : Int) := by omega
    go_wp2_with fail
    go_ret2
    refine ⟨ret2_i rfl (by rw [HPE.out]), ?_, ?_⟩
    · rw [HP.out]; exact hT.1
    · exact hc1.trans hT.2
end Lc
end Go.Proofs.Ytgdfbpphfanocaa
