/- The law's rows; a call of a table in both. -/
import Derived.Test.YtgdfbpphfanocaaDC
import Derived.Test.YtgdfbpphfanocaaDD
import Derived.Test.YtgdfbpphfanocaaDE
import Derived.Laws.StructEq
import Derived.ChangeKeysEq
set_option linter.unusedVariables false
set_option linter.unusedSimpArgs false
namespace Go.Proofs.Ytgdfbpphfanocaa
open Go.RowKit Go.Sort
namespace Lc

/-- what block g holds -/
structure Lies (w : World) (g n : Nat) (t : Nat → Cl) : Prop where
  at_ : ∀ i r, i < n → r < 3 → w.cell? ⟨g, i * 3 + r, none⟩ = (cellL (t i))[r]?
  gz : g < w.heap.size
theorem Lies.below {w w' : World} {g n : Nat} {t : Nat → Cl} (h : Lies w g n t) (hb : Below w.heap.size w w') : Lies w' g n t :=
  ⟨fun i r hi hr => (hb.cell (p := ⟨g, i * 3 + r, none⟩) h.gz).trans (h.at_ i r hi hr), Nat.lt_of_lt_of_le h.gz hb.size⟩
theorem Lies.of_own {w : World} {B n : Nat} {v : Value} {t : Nat → Cl} (h : w.ownsRow B 48 3 v n (cellsL t n)) (hn : 1 ≤ n) :
    ∃ g cap, v = .slice (some ⟨g, 0, none⟩) n cap ∧ n ≤ cap ∧ cap ≤ maxLen ∧ B ≤ g ∧ Lies w g n t := by
  obtain ⟨g, cap, h1, h2, h3, h4, h5, h6⟩ := own_at h hn
  exact ⟨g, cap, h1, h2, h3, h4, ⟨h6, h5⟩⟩
theorem cellL_is (x : Cl) : ∃ p q r : Int, cellL x = [.int .i64 p, .int .i64 q, .int .i64 r] := by
  unfold cellL; split
  · exact ⟨_, _, _, rfl⟩
  · exact ⟨_, _, _, rfl⟩
theorem cellsI : Try.prog.cellsOf 3 = 1 := by kernel_rfl
theorem eq3 (x y z : Int) (w : World) : (Op.equalIn 10000 48 (.agg #[.int .i64 x, .int .i64 y, .int .i64 z]) (.agg #[.int .i64 x, .int .i64 y, .int .i64 z])).run Try.prog w = .ok true w := by
  obtain ⟨i0, hi, -⟩ := Option.map_eq_some_iff.1 (show (Try.prog.info? 3).map (fun i => i.size) = some 1 by kernel_rfl)
  have hi1 : ∀ (a : Int) (w : World), (Op.equalIn 9999 3 (.int .i64 a) (.int .i64 a)).run Try.prog w = .ok true w := fun a w => by
    rw [show (9999 : Nat) = 9998 + 1 from rfl, run_equalIn_int w 9998 3 .i64 .i64 a a Try.underlying3]; simp
  rw [show (10000 : Nat) = 9999 + 1 from rfl, run_equalIn_array w 9999 _ _ Try.underlying48 hi, cellsI]
  simp [List.range, List.range.loop, Op.eqItems, hi1, go_sem]
set_option maxHeartbeats 4000000 in
theorem rows_any (g g2 cap cap2 n : Nat) (t : Nat → Cl) (w : World) (hn : n ≤ 32) (hc : n ≤ cap) (hc2 : n ≤ cap2) (h1 : Lies w g n t) (h2 : Lies w g2 n t) :
    Calls Try.prog 20 #[.slice (some ⟨g, 0, none⟩) n cap, .slice (some ⟨g2, 0, none⟩) n cap2] w fun e w' => e = .returned (.bool true) ∧ Below w.heap.size w w' := by
  go_enter Try.func20, Try.ntmps20
  go_wp2_with fail
  go_loopw [5] (fun i wr => ∃ k : Nat, k ≤ n ∧ i = .int .i64 (k : Int) ∧ Below w.heap.size w wr) (fun i _ => ((n : Int) - intOf i).toNat)
  case atStart => exact ⟨0, by omega, rfl, Below.refl _ _⟩
  case round =>
    obtain ⟨k, hk, rfl, hb⟩ := hrel
    by_cases hlt : k < n
    · have hkn : (k : Int) < (n : Int) := by omega
      obtain ⟨x, y, z, hx⟩ := cellL_is (t k)
      have l1 := h1.below hb
      have l2 := h2.below hb
      have d0 : wr.cell? ⟨g, k * 3, none⟩ = _ := l1.at_ k 0 hlt (by omega)
      have d1 := l1.at_ k 1 hlt (by omega)
      have d2 := l1.at_ k 2 hlt (by omega)
      have e0 : wr.cell? ⟨g2, k * 3, none⟩ = _ := l2.at_ k 0 hlt (by omega)
      have e1 := l2.at_ k 1 hlt (by omega)
      have e2 := l2.at_ k 2 hlt (by omega)
      rw [hx] at d0 d1 d2 e0 e1 e2
      have hE := eq3 x y z
      clear hx l1 l2
      go_wp2_with fail
      go_region
      go_wp2_with fail
      exact ⟨⟨k + 1, by omega, by push_cast; rfl, by go_grown⟩, by simp [intOf]; omega⟩
    · obtain rfl : k = n := by omega
      go_wp2_with fail
      go_ret
      exact ⟨rfl, hb⟩
theorem rows_nil (w : World) :
    Calls Try.prog 20 #[.slice none 0 0, .slice none 0 0] w fun e w' => e = .returned (.bool true) ∧ w = w' := by
  go_enter Try.func20, Try.ntmps20
  go_wp2_with fail
  go_loop [5] (fun i => i = .int .i64 0) (fun _ => 0)
  case atStart => rfl
  case round =>
    subst hrel
    go_wp2_with fail
    go_ret
    exact ⟨rfl, rfl⟩

theorem Tab.chg {w w' : World} {b c d n : Nat} {t : Nat → Cl} (h : Tab w b c n t) (g : Chg d w w') (h1 : b ≠ d) (h2 : c ≠ d) : Tab w' b c n t :=
  ⟨by rw [g.cell _ _ h.bz h1]; exact h.s, fun i hi => by rw [g.cell _ _ h.cz h2]; exact h.u i hi, fun i hi => by rw [g.cell _ _ h.cz h2]; exact h.k i hi, fun i hi => by rw [g.cell _ _ h.cz h2]; exact h.v i hi,
   fun i hi => by rw [g.frozen _ _ h.cz h2]; exact h.f0 i hi, fun i hi => by rw [g.frozen _ _ h.cz h2]; exact h.f1 i hi, fun i hi => by rw [g.frozen _ _ h.cz h2]; exact h.f2 i hi, h.ne, Nat.lt_of_lt_of_le h.bz g.size, Nat.lt_of_lt_of_le h.cz g.size⟩
/-- what a call does to the cells -/
def st (t : Nat → Cl) (n : Nat) (d a v : Int) : Nat → Cl :=
  if d = 1 then (if wd a && wd v then put t n a v else t) else if d = 3 then (if wd a then del t n a else t) else t
/-- both tables in memory -/
structure Two (w : World) (b c b2 c2 n : Nat) (t : Nat → Cl) : Prop where
  p : Tab w b c n t
  r : Tab w b2 c2 n t
  n1 : b ≠ c2
  n2 : c ≠ c2
  n3 : b2 ≠ c
theorem Two.below {w w' : World} {b c b2 c2 n : Nat} {t : Nat → Cl} (h : Two w b c b2 c2 n t) (hb : Below w.heap.size w w') : Two w' b c b2 c2 n t :=
  ⟨h.p.below hb, h.r.below hb, h.n1, h.n2, h.n3⟩
theorem ctr_put {n : Int} (h : rm n = true) : ctr ⟨#[112, 117, 116]⟩ n = ⟨n, 0⟩ := by
  have e : (⟨#[112, 117, 116]⟩ : ByteArray).toList = [112, 117, 116] := by rw [ByteArray.toList_eq]
  unfold ctr; rw [h, e]; rfl
theorem ctr_get {n : Int} (h : rm n = true) : ctr ⟨#[103, 101, 116]⟩ n = ⟨n, 0⟩ := by
  have e : (⟨#[103, 101, 116]⟩ : ByteArray).toList = [103, 101, 116] := by rw [ByteArray.toList_eq]
  unfold ctr; rw [h, e]; rfl
theorem ctr_del {n : Int} (h : rm n = true) : ctr ⟨#[100, 101, 108, 101, 116, 101]⟩ n = ⟨2 * n - 1, 0⟩ := by
  have e : (⟨#[100, 101, 108, 101, 116, 101]⟩ : ByteArray).toList = [100, 101, 108, 101, 116, 101] := by rw [ByteArray.toList_eq]
  unfold ctr; rw [h, e]; rfl
theorem delS_bd (t : Nat → Cl) (n : Nat) (key : Int) (hn : 1 ≤ n) : 0 ≤ delS t n key ∧ delS t n key ≤ 2 * (n : Int) - 1 := by
  obtain ⟨b1, b2, b3, b4⟩ := fnd_bd t n key hn
  unfold delS
  split
  · have := dl_steps n (fgap t n key) (n - 1) 1 (fgap t n key) (upd t (fgap t n key) zc) (by omega)
    unfold dres
    omega
  · omega
def Post (w : World) (b c b2 c2 n : Nat) (t : Nat → Cl) (e : Ending) (w' : World) : Prop :=
  e = .returned (.bool true) ∧ Two w' b c b2 c2 n t ∧ ∀ B, B ≤ c → B ≤ c2 → B ≤ w.heap.size → Below B w w'
set_option maxHeartbeats 4000000 in
theorem table1 (b c b2 c2 n : Nat) (t : Nat → Cl) (a v : Int) (f : Bool) (s : ByteArray) (w : World) (hT : Two w b c b2 c2 n t) (hn : 1 ≤ n) (hn2 : n ≤ 32) (hr : rm (n : Int) = true) (ha : wd a = true) (hv : wd v = true) :
    Calls Try.prog 19 #[.pointer (some ⟨b, 0, none⟩), .pointer (some ⟨b2, 0, none⟩), .agg #[.int .i64 1, .int .i64 a, .int .i64 v, .bool f, .string s]] w (Post w b c b2 c2 n (put t n a v)) := by
  have Hr := hide hr
  clear hr
  have q0 := hT.below ((Below.refl w.heap.size w).alloc (Nat.le_refl _) (.cells #[.int .i64 1, .int .i64 a, .int .i64 v, .bool f, .string s] 30))
  have g1 : w.heap.size ≠ c := Ne.symm (Nat.ne_of_lt hT.p.cz)
  have g2 : w.heap.size ≠ c2 := Ne.symm (Nat.ne_of_lt hT.r.cz)
  have s1 := hT.r.s
  have s2 := hT.r.bz
  go_enter Try.func19, Try.ntmps19
  go_wp2_with fail
  refine (Put_any b c n t a v _ q0.p hn hn2 (wd_t ha) (wd_t hv)).mono ?_
  rintro e w1 ⟨rfl, hN1, hC1⟩
  have hR1 := q0.r.chg hC1 hT.n3 (Ne.symm hT.n2)
  have cl1 : w1.cell? ⟨w.heap.size, 1, none⟩ = some (.int .i64 a) := by rw [hC1.cell _ _ (by simp) g1]; simp
  have cl2 : w1.cell? ⟨w.heap.size, 2, none⟩ = some (.int .i64 v) := by rw [hC1.cell _ _ (by simp) g1]; simp
  have k1 : w.heap.size + 1 ≤ w1.heap.size := by have := hC1.size; simpa using this
  clear s1 s2
  go_wp2_with fail
  refine (rPut_any b2 c2 n t a v _ hR1 hn hn2 (wd_t ha) (wd_t hv)).mono ?_
  rintro e w2 ⟨rfl, hN2, hC2⟩
  have hP2 := hN1.chg hC2 hT.n1 hT.n2
  obtain ⟨_, _, bd1, bd2⟩ := fnd_bd t n a hn
  clear cl1 cl2
  go_wp2_with fail
  refine (within_any _ (fnd t n a).2 n _ (by rw [ctr_put Hr.out]) (by omega) (by rw [ctr_put Hr.out]; show _ ≤ ((n : Int) : Int); omega)).mono ?_
  rintro e ws ⟨rfl, rfl⟩
  go_wp2_with fail
  go_ret
  refine ⟨rfl, ⟨hP2, hN2, hT.n1, hT.n2, hT.n3⟩, fun B h1 h2 h3 => ?_⟩
  exact ((Below.refl B w).alloc h3 _).trans ((hC1.below B h1 (by simp; omega)).trans (hC2.below B h2 (by omega)))
set_option maxHeartbeats 4000000 in
theorem table1_bad0 (b c b2 c2 n : Nat) (t : Nat → Cl) (a v : Int) (f : Bool) (s : ByteArray) (w : World) (hT : Two w b c b2 c2 n t) (hn : 1 ≤ n) (hn2 : n ≤ 32) (hr : rm (n : Int) = true) (ha : wd a = false) :
    Calls Try.prog 19 #[.pointer (some ⟨b, 0, none⟩), .pointer (some ⟨b2, 0, none⟩), .agg #[.int .i64 1, .int .i64 a, .int .i64 v, .bool f, .string s]] w (Post w b c b2 c2 n (t)) := by
  have Hr := hide hr
  clear hr
  have q0 := hT.below ((Below.refl w.heap.size w).alloc (Nat.le_refl _) (.cells #[.int .i64 1, .int .i64 a, .int .i64 v, .bool f, .string s] 30))
  have g1 : w.heap.size ≠ c := Ne.symm (Nat.ne_of_lt hT.p.cz)
  have g2 : w.heap.size ≠ c2 := Ne.symm (Nat.ne_of_lt hT.r.cz)
  have s1 := hT.r.s
  have s2 := hT.r.bz
  go_enter Try.func19, Try.ntmps19
  go_wp2_with fail
  refine (Put_bad0 b c n t a v _ q0.p hn hn2 ha).mono ?_
  rintro e ws0 ⟨rfl, rfl⟩
  go_wp2_with fail
  refine (rPut_bad0 b2 c2 n t a v _ q0.r hn hn2 ha).mono ?_
  rintro e ws1 ⟨rfl, rfl⟩
  go_wp2_with fail
  refine (within_any _ 0 n _ (by rw [ctr_put Hr.out]) (by omega) (by rw [ctr_put Hr.out]; show _ ≤ ((n : Int) : Int); omega)).mono ?_
  rintro e ws ⟨rfl, rfl⟩
  go_wp2_with fail
  go_ret
  exact ⟨rfl, q0, fun B h1 h2 h3 => (Below.refl B w).alloc h3 _⟩
set_option maxHeartbeats 4000000 in
theorem table1_bad1 (b c b2 c2 n : Nat) (t : Nat → Cl) (a v : Int) (f : Bool) (s : ByteArray) (w : World) (hT : Two w b c b2 c2 n t) (hn : 1 ≤ n) (hn2 : n ≤ 32) (hr : rm (n : Int) = true) (ha : wd a = true) (hv : wd v = false) :
    Calls Try.prog 19 #[.pointer (some ⟨b, 0, none⟩), .pointer (some ⟨b2, 0, none⟩), .agg #[.int .i64 1, .int .i64 a, .int .i64 v, .bool f, .string s]] w (Post w b c b2 c2 n (t)) := by
  have Hr := hide hr
  clear hr
  have q0 := hT.below ((Below.refl w.heap.size w).alloc (Nat.le_refl _) (.cells #[.int .i64 1, .int .i64 a, .int .i64 v, .bool f, .string s] 30))
  have g1 : w.heap.size ≠ c := Ne.symm (Nat.ne_of_lt hT.p.cz)
  have g2 : w.heap.size ≠ c2 := Ne.symm (Nat.ne_of_lt hT.r.cz)
  have s1 := hT.r.s
  have s2 := hT.r.bz
  go_enter Try.func19, Try.ntmps19
  go_wp2_with fail
  refine (Put_bad1 b c n t a v _ q0.p hn hn2 ha hv).mono ?_
  rintro e ws0 ⟨rfl, rfl⟩
  go_wp2_with fail
  refine (rPut_bad1 b2 c2 n t a v _ q0.r hn hn2 ha hv).mono ?_
  rintro e ws1 ⟨rfl, rfl⟩
  go_wp2_with fail
  refine (within_any _ 0 n _ (by rw [ctr_put Hr.out]) (by omega) (by rw [ctr_put Hr.out]; show _ ≤ ((n : Int) : Int); omega)).mono ?_
  rintro e ws ⟨rfl, rfl⟩
  go_wp2_with fail
  go_ret
  exact ⟨rfl, q0, fun B h1 h2 h3 => (Below.refl B w).alloc h3 _⟩
set_option maxHeartbeats 4000000 in
theorem table2 (b c b2 c2 n : Nat) (t : Nat → Cl) (a v : Int) (f : Bool) (s : ByteArray) (w : World) (hT : Two w b c b2 c2 n t) (hn : 1 ≤ n) (hn2 : n ≤ 32) (hr : rm (n : Int) = true) (ha : wd a = true) :
    Calls Try.prog 19 #[.pointer (some ⟨b, 0, none⟩), .pointer (some ⟨b2, 0, none⟩), .agg #[.int .i64 2, .int .i64 a, .int .i64 v, .bool f, .string s]] w (Post w b c b2 c2 n (t)) := by
  have Hr := hide hr
  clear hr
  have q0 := hT.below ((Below.refl w.heap.size w).alloc (Nat.le_refl _) (.cells #[.int .i64 2, .int .i64 a, .int .i64 v, .bool f, .string s] 30))
  have g1 : w.heap.size ≠ c := Ne.symm (Nat.ne_of_lt hT.p.cz)
  have g2 : w.heap.size ≠ c2 := Ne.symm (Nat.ne_of_lt hT.r.cz)
  have s1 := hT.r.s
  have s2 := hT.r.bz
  go_enter Try.func19, Try.ntmps19
  go_wp2_with fail
  refine (Get_any b c n t a _ q0.p hn hn2 (wd_t ha)).mono ?_
  rintro e w1 ⟨rfl, hb1⟩
  have hC1 := Chg.of_below (c := c) hb1
  have hN1 := q0.p.below hb1
  clear hb1
  have hR1 := q0.r.chg hC1 hT.n3 (Ne.symm hT.n2)
  have cl1 : w1.cell? ⟨w.heap.size, 1, none⟩ = some (.int .i64 a) := by rw [hC1.cell _ _ (by simp) g1]; simp
  have cl2 : w1.cell? ⟨w.heap.size, 2, none⟩ = some (.int .i64 v) := by rw [hC1.cell _ _ (by simp) g1]; simp
  have k1 : w.heap.size + 1 ≤ w1.heap.size := by have := hC1.size; simpa using this
  clear s1 s2
  go_wp2_with fail
  refine (rGet_any b2 c2 n t a _ hR1 hn hn2 (wd_t ha)).mono ?_
  rintro e w2 ⟨rfl, hb2⟩
  have hC2 := Chg.of_below (c := c2) hb2
  have hN2 := hR1.below hb2
  clear hb2
  have hP2 := hN1.chg hC2 hT.n1 hT.n2
  obtain ⟨_, _, bd1, bd2⟩ := fnd_bd t n a hn
  clear cl1 cl2
  go_wp2_with fail
  refine (within_any _ (fnd t n a).2 n _ (by rw [ctr_get Hr.out]) (by omega) (by rw [ctr_get Hr.out]; show _ ≤ ((n : Int) : Int); omega)).mono ?_
  rintro e ws ⟨rfl, rfl⟩
  go_wp2_with fail
  go_ret
  refine ⟨rfl, ⟨hP2, hN2, hT.n1, hT.n2, hT.n3⟩, fun B h1 h2 h3 => ?_⟩
  exact ((Below.refl B w).alloc h3 _).trans ((hC1.below B h1 (by simp; omega)).trans (hC2.below B h2 (by omega)))
set_option maxHeartbeats 4000000 in
theorem table2_bad0 (b c b2 c2 n : Nat) (t : Nat → Cl) (a v : Int) (f : Bool) (s : ByteArray) (w : World) (hT : Two w b c b2 c2 n t) (hn : 1 ≤ n) (hn2 : n ≤ 32) (hr : rm (n : Int) = true) (ha : wd a = false) :
    Calls Try.prog 19 #[.pointer (some ⟨b, 0, none⟩), .pointer (some ⟨b2, 0, none⟩), .agg #[.int .i64 2, .int .i64 a, .int .i64 v, .bool f, .string s]] w (Post w b c b2 c2 n (t)) := by
  have Hr := hide hr
  clear hr
  have q0 := hT.below ((Below.refl w.heap.size w).alloc (Nat.le_refl _) (.cells #[.int .i64 2, .int .i64 a, .int .i64 v, .bool f, .string s] 30))
  have g1 : w.heap.size ≠ c := Ne.symm (Nat.ne_of_lt hT.p.cz)
  have g2 : w.heap.size ≠ c2 := Ne.symm (Nat.ne_of_lt hT.r.cz)
  have s1 := hT.r.s
  have s2 := hT.r.bz
  go_enter Try.func19, Try.ntmps19
  go_wp2_with fail
  refine (Get_bad0 b c n t a _ q0.p hn hn2 ha).mono ?_
  rintro e ws0 ⟨rfl, rfl⟩
  go_wp2_with fail
  refine (rGet_bad0 b2 c2 n t a _ q0.r hn hn2 ha).mono ?_
  rintro e ws1 ⟨rfl, rfl⟩
  go_wp2_with fail
  refine (within_any _ 0 n _ (by rw [ctr_get Hr.out]) (by omega) (by rw [ctr_get Hr.out]; show _ ≤ ((n : Int) : Int); omega)).mono ?_
  rintro e ws ⟨rfl, rfl⟩
  go_wp2_with fail
  go_ret
  exact ⟨rfl, q0, fun B h1 h2 h3 => (Below.refl B w).alloc h3 _⟩
set_option maxHeartbeats 4000000 in
theorem table3 (b c b2 c2 n : Nat) (t : Nat → Cl) (a v : Int) (f : Bool) (s : ByteArray) (w : World) (hT : Two w b c b2 c2 n t) (hn : 1 ≤ n) (hn2 : n ≤ 32) (hr : rm (n : Int) = true) (ha : wd a = true) (hW : Wd t n) :
    Calls Try.prog 19 #[.pointer (some ⟨b, 0, none⟩), .pointer (some ⟨b2, 0, none⟩), .agg #[.int .i64 3, .int .i64 a, .int .i64 v, .bool f, .string s]] w (Post w b c b2 c2 n (del t n a)) := by
  have Hr := hide hr
  clear hr
  have q0 := hT.below ((Below.refl w.heap.size w).alloc (Nat.le_refl _) (.cells #[.int .i64 3, .int .i64 a, .int .i64 v, .bool f, .string s] 30))
  have g1 : w.heap.size ≠ c := Ne.symm (Nat.ne_of_lt hT.p.cz)
  have g2 : w.heap.size ≠ c2 := Ne.symm (Nat.ne_of_lt hT.r.cz)
  have s1 := hT.r.s
  have s2 := hT.r.bz
  go_enter Try.func19, Try.ntmps19
  go_wp2_with fail
  refine (Delete_any b c n t a _ q0.p hn hn2 (wd_t ha) hW).mono ?_
  rintro e w1 ⟨rfl, hN1, hC1⟩
  have hR1 := q0.r.chg hC1 hT.n3 (Ne.symm hT.n2)
  have cl1 : w1.cell? ⟨w.heap.size, 1, none⟩ = some (.int .i64 a) := by rw [hC1.cell _ _ (by simp) g1]; simp
  have cl2 : w1.cell? ⟨w.heap.size, 2, none⟩ = some (.int .i64 v) := by rw [hC1.cell _ _ (by simp) g1]; simp
  have k1 : w.heap.size + 1 ≤ w1.heap.size := by have := hC1.size; simpa using this
  clear s1 s2
  go_wp2_with fail
  refine (rDelete_any b2 c2 n t a _ hR1 hn hn2 (wd_t ha) hW).mono ?_
  rintro e w2 ⟨rfl, hN2, hC2⟩
  have hP2 := hN1.chg hC2 hT.n1 hT.n2
  obtain ⟨bd1, bd2⟩ := delS_bd t n a hn
  clear cl1 cl2
  go_wp2_with fail
  refine (within_any _ (delS t n a) n _ (by rw [ctr_del Hr.out]) (by omega) (by rw [ctr_del Hr.out]; show _ ≤ (2 * (n : Int) - 1 : Int); omega)).mono ?_
  rintro e ws ⟨rfl, rfl⟩
  go_wp2_with fail
  go_ret
  refine ⟨rfl, ⟨hP2, hN2, hT.n1, hT.n2, hT.n3⟩, fun B h1 h2 h3 => ?_⟩
  exact ((Below.refl B w).alloc h3 _).trans ((hC1.below B h1 (by simp; omega)).trans (hC2.below B h2 (by omega)))
set_option maxHeartbeats 4000000 in
theorem table3_bad0 (b c b2 c2 n : Nat) (t : Nat → Cl) (a v : Int) (f : Bool) (s : ByteArray) (w : World) (hT : Two w b c b2 c2 n t) (hn : 1 ≤ n) (hn2 : n ≤ 32) (hr : rm (n : Int) = true) (ha : wd a = false) :
    Calls Try.prog 19 #[.pointer (some ⟨b, 0, none⟩), .pointer (some ⟨b2, 0, none⟩), .agg #[.int .i64 3, .int .i64 a, .int .i64 v, .bool f, .string s]] w (Post w b c b2 c2 n (t)) := by
  have Hr := hide hr
  clear hr
  have q0 := hT.below ((Below.refl w.heap.size w).alloc (Nat.le_refl _) (.cells #[.int .i64 3, .int .i64 a, .int .i64 v, .bool f, .string s] 30))
  have g1 : w.heap.size ≠ c := Ne.symm (Nat.ne_of_lt hT.p.cz)
  have g2 : w.heap.size ≠ c2 := Ne.symm (Nat.ne_of_lt hT.r.cz)
  have s1 := hT.r.s
  have s2 := hT.r.bz
  go_enter Try.func19, Try.ntmps19
  go_wp2_with fail
  refine (Delete_bad0 b c n t a _ q0.p hn hn2 ha).mono ?_
  rintro e ws0 ⟨rfl, rfl⟩
  go_wp2_with fail
  refine (rDelete_bad0 b2 c2 n t a _ q0.r hn hn2 ha).mono ?_
  rintro e ws1 ⟨rfl, rfl⟩
  go_wp2_with fail
  refine (within_any _ 0 n _ (by rw [ctr_del Hr.out]) (by omega) (by rw [ctr_del Hr.out]; show _ ≤ (2 * (n : Int) - 1 : Int); omega)).mono ?_
  rintro e ws ⟨rfl, rfl⟩
  go_wp2_with fail
  go_ret
  exact ⟨rfl, q0, fun B h1 h2 h3 => (Below.refl B w).alloc h3 _⟩
theorem table_other (b c b2 c2 n : Nat) (t : Nat → Cl) (d a v : Int) (f : Bool) (s : ByteArray) (w : World) (hT : Two w b c b2 c2 n t) (hd1 : (d == 1) = false) (hd2 : (d == 2) = false) (hd3 : (d == 3) = false) :
    Calls Try.prog 19 #[.pointer (some ⟨b, 0, none⟩), .pointer (some ⟨b2, 0, none⟩), .agg #[.int .i64 d, .int .i64 a, .int .i64 v, .bool f, .string s]] w (Post w b c b2 c2 n t) := by
  have s1 := hT.r.s
  have s2 := hT.r.bz
  go_enter Try.func19, Try.ntmps19
  go_wp2_with fail
  go_ret
  exact ⟨rfl, hT.below (by go_grown), fun B h1 h2 h3 => by go_grown⟩
theorem table_any (b c b2 c2 n : Nat) (t : Nat → Cl) (d a v : Int) (f : Bool) (s : ByteArray) (w : World) (hT : Two w b c b2 c2 n t) (hn : 1 ≤ n) (hn2 : n ≤ 32) (hW : Wd t n) :
    Calls Try.prog 19 #[.pointer (some ⟨b, 0, none⟩), .pointer (some ⟨b2, 0, none⟩), .agg #[.int .i64 d, .int .i64 a, .int .i64 v, .bool f, .string s]] w (Post w b c b2 c2 n (st t n d a v)) := by
  have hr : rm (n : Int) = true := by simp [rm]; omega
  by_cases h1 : d = 1
  · subst h1
    cases ha : wd a
    · have e : st t n 1 a v = t := by simp [st, ha]
      rw [e]; exact table1_bad0 b c b2 c2 n t a v f s w hT hn hn2 hr ha
    · cases hv : wd v
      · have e : st t n 1 a v = t := by simp [st, ha, hv]
        rw [e]; exact table1_bad1 b c b2 c2 n t a v f s w hT hn hn2 hr ha hv
      · have e : st t n 1 a v = put t n a v := by simp [st, ha, hv]
        rw [e]; exact table1 b c b2 c2 n t a v f s w hT hn hn2 hr ha hv
  · by_cases h3 : d = 3
    · subst h3
      cases ha : wd a
      · have e : st t n 3 a v = t := by simp [st, ha]
        rw [e]; exact table3_bad0 b c b2 c2 n t a v f s w hT hn hn2 hr ha
      · have e : st t n 3 a v = del t n a := by simp [st, ha]
        rw [e]; exact table3 b c b2 c2 n t a v f s w hT hn hn2 hr ha hW
    · have e : st t n d a v = t := by simp [st, h1, h3]
      rw [e]
      by_cases h2 : d = 2
      · subst h2
        cases ha : wd a
        · exact table2_bad0 b c b2 c2 n t a v f s w hT hn hn2 hr ha
        · exact table2 b c b2 c2 n t a v f s w hT hn hn2 hr ha
      · exact table_other b c b2 c2 n t d a v f s w hT (by simpa using h1) (by simpa using h2) (by simpa using h3)
end Lc
end Go.Proofs.Ytgdfbpphfanocaa
