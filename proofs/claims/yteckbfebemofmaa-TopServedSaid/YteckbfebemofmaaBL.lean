/- Serve: each request of one's own is served in time. -/
import Derived.Test.YteckbfebemofmaaBK
set_option linter.unusedVariables false
set_option linter.unusedSimpArgs false
namespace Go.Proofs.Yteckbfebemofmaa
open Go.RowKit Fw
namespace Bs
theorem makeI2 (n : Nat) (hn : n ≤ 400) (W : World) : (Instr.makeSlice 23 (.int .i64 (n : Int)) (.int .i64 (n : Int))).run Try.prog W = .ok (.slice (some ⟨W.heap.size, 0, none⟩) n n) (W.alloc (.cells (irow n (fun _ => 0)) 3)) := by
  obtain ⟨i, hi, hz, hs, hb⟩ := infoI
  have hr := run_make (P := Try.prog) W 23 3 i _ Try.underlying23 hi hz .i64 .i64 (n : Int) (n : Int) (by omega) (by omega) (by rw [hb]; omega) (by omega)
  rw [hs, Int.toNat_natCast] at hr
  rw [← irow_made n]
  exact hr
theorem irow4 : (#[vI 0, vI 0, vI 0, vI 0] : Array Value) = irow 4 (fun _ => 0) := by
  unfold irow
  apply Array.ext
  · simp
  · intro i h1 h2
    simp at h1
    rcases (show i = 0 ∨ i = 1 ∨ i = 2 ∨ i = 3 by omega) with rfl | rfl | rfl | rfl <;> simp
theorem end_gap {l : List Int} {m x n : Int} (hF : 1 ≤ l.length) (hl : l.length ≤ 400) (hL : 0 < (posI l m).length) (h0 : 0 ≤ x) (hn0 : 1 ≤ n) (hn1 : n ≤ 100) : endV (l.length : Int) (posI l m) x n - x ≤ 40400 := by
  rw [end_mod (by omega) hL]
  have r0 := Int.emod_nonneg x (show (l.length : Int) ≠ 0 by omega)
  have r1 := Int.emod_lt_of_pos x (show (0 : Int) < (l.length : Int) by omega)
  generalize x % (l.length : Int) = r at r0 r1
  have hp := posI_len l m
  have hlb := lb_le (posI l m) r
  have hbef : befV (l.length : Int) (posI l m) r = (lb (posI l m) r : Int) := by
    unfold befV
    rw [Int.ediv_eq_zero_of_lt r0 r1, Int.zero_mul, Int.zero_add, Int.emod_eq_of_lt r0 r1]
  unfold endV
  rw [hbef]
  have hq0 : 0 ≤ ((lb (posI l m) r : Int) + n - 1) / ((posI l m).length : Int) := Int.ediv_nonneg (by omega) (by omega)
  have hq1 : ((lb (posI l m) r : Int) + n - 1) / ((posI l m).length : Int) < 101 := (Int.ediv_lt_iff_lt_mul (by omega)).2 (by omega)
  obtain ⟨e1, e2⟩ := mulB hq0 (show _ ≤ (100 : Int) by omega) (show (0 : Int) ≤ (l.length : Int) by omega) (show (l.length : Int) ≤ 400 by omega)
  have m1 := Int.emod_nonneg ((lb (posI l m) r : Int) + n - 1) (show ((posI l m).length : Int) ≠ 0 by omega)
  have m2 := Int.emod_lt_of_pos ((lb (posI l m) r : Int) + n - 1) (show (0 : Int) < ((posI l m).length : Int) by omega)
  have := xs_bd (l := l) (m := m) (i := (((lb (posI l m) r : Int) + n - 1) % ((posI l m).length : Int)).toNat) (by omega)
  omega
theorem Pm.surj {a b : Nat} {x y : Nat → Int} (h : Pm a b x y) {i : Nat} (hi : a ≤ i ∧ i < b) : ∃ j, (a ≤ j ∧ j < b) ∧ y j = x i := by
  obtain ⟨s, t, h1, h2, h3, h4⟩ := h
  refine ⟨t i, Classical.byContradiction fun q => ?_, by rw [h3, h1]⟩
  have e := h4 _ q
  rw [h1] at e
  rw [← e] at q; exact q hi
theorem Pm.inj {n : Nat} {x y : Nat → Int} (h : Pm 0 n x y) (hx : ∀ j, j < n → x j = (j : Int)) {j1 j2 : Nat} (g1 : j1 < n) (g2 : j2 < n) (e : y j1 = y j2) : j1 = j2 := by
  obtain ⟨s, t, h1, h2, h3, h4⟩ := h
  have hs : ∀ j, j < n → s j < n := fun j hj => Classical.byContradiction fun q => by
    have e := h4 (s j) (fun g => q g.2)
    have e2 := h2 (s j)
    rw [e, h2] at e2
    omega
  rw [h3, h3, hx _ (hs _ g1), hx _ (hs _ g2)] at e
  have e3 : s j1 = s j2 := by omega
  rw [← h2 j1, e3, h2]
/-- requests of one's own, as far apart as the worst delay -/
structure OwnOk (l : List Int) (q : List Rq) (m0 tk wv : Int) (n0 : Nat) : Prop where
  le : n0 ≤ q.length
  m00 : 0 ≤ m0
  own : ∀ i, i < n0 → qM q i = m0 ∧ qN q i = tk
  oth : ∀ i, n0 ≤ i → i < q.length → qM q i ≠ m0
  gap : ∀ i j, i < j → j < n0 → qT q i + wv ≤ qT q j
  w1 : 1 ≤ wv
  fin : ∀ x, 0 ≤ x → endV (l.length : Int) (posI l m0) x tk - x ≤ wv
/-- k requests are served -/
structure Sv (q : List Rq) (m0 wv : Int) (n0 : Nat) (z : Nat → Int) (k : Nat) (LM E : Nat → Int) : Prop where
  bd : ∀ m, m < 4 → 0 ≤ LM m ∧ LM m ≤ 10000 + k * 40400
  last : ∀ j, k ≤ j → j < q.length → (z j).toNat < n0 → LM m0.toNat ≤ qT q (z j).toNat
  done : ∀ j, j < k → (z j).toNat < n0 → 1 ≤ E (z j).toNat ∧ E (z j).toNat - qT q (z j).toNat ≤ wv
theorem Sv.start {q : List Rq} {m0 wv : Int} {n0 : Nat} {z E : Nat → Int} (ht : ∀ i, i < q.length → 0 ≤ qT q i) (hz : ∀ j, j < q.length → 0 ≤ z j ∧ z j < (q.length : Int)) : Sv q m0 wv n0 z 0 (fun _ => 0) E :=
  ⟨fun m hm => ⟨Int.le_refl _, by omega⟩, fun j h1 h2 h3 => ht _ (by have := hz j h2; omega), fun j h => absurd h (Nat.not_lt_zero _)⟩
theorem Sv.step {l : List Int} {q : List Rq} {m0 tk wv bv ev : Int} {n0 k i mn : Nat} {z LM E : Nat → Int} (h : Sv q m0 wv n0 z k LM E) (hO : OwnOk l q m0 tk wv n0) (hinj : ∀ j1 j2, j1 < q.length → j2 < q.length → z j1 = z j2 → j1 = j2) (hz : ∀ j, j < q.length → 0 ≤ z j ∧ z j < (q.length : Int))
    (hsd : Sd (fun v => qT q v.toNat) 0 q.length z) (hk : k < q.length) (hi : z k = (i : Int)) (hmn : qM q i = (mn : Int)) (hm : mn < 4) (ht : 0 ≤ qT q i ∧ qT q i ≤ 10000) (hbv : bv = if qT q i < LM mn then LM mn else qT q i)
    (hev : ev = endV (l.length : Int) (posI l (qM q i)) bv (qN q i)) (h1 : 1 ≤ ev) (h2 : ev - bv ≤ 40400) : Sv q m0 wv n0 z (k + 1) (upI LM mn ev) (upI E i ev) := by
  have hzk : (z k).toNat = i := by omega
  have hb := h.bd mn hm
  have hown : i < n0 → qT q i = bv ∧ ev - qT q i ≤ wv ∧ m0.toNat = mn := fun hi0 => by
    obtain ⟨e1, e2⟩ := hO.own i hi0
    have em : m0.toNat = mn := by rw [← e1, hmn]; rfl
    have g := h.last k (Nat.le_refl _) hk (by omega)
    rw [hzk, em] at g
    have eb : bv = qT q i := by rw [hbv, if_neg (by omega)]
    have := hO.fin bv (by omega)
    rw [← e1, ← e2, ← hev] at this
    exact ⟨eb.symm, by omega, em⟩
  refine ⟨fun m hm2 => ?_, fun j g1 g2 g3 => ?_, fun j g1 g3 => ?_⟩
  · have g := h.bd m hm2
    have hb2 : bv ≤ 10000 + k * 40400 := by rw [hbv]; split <;> omega
    unfold upI
    split <;> omega
  · have g := h.last j (by omega) g2 g3
    unfold upI
    by_cases e : m0.toNat = mn
    · rw [if_pos e]
      have hi0 : i < n0 := Classical.byContradiction fun q1 => hO.oth i (by omega) (by have := hz k hk; omega) (by have := hO.m00; omega)
      obtain ⟨o1, o2, -⟩ := hown hi0
      have hs : qT q (z k).toNat ≤ qT q (z j).toNat := hsd k j (Nat.zero_le _) (by omega) g2
      rw [hzk] at hs
      have hne : (z j).toNat ≠ i := fun q1 => by
        have := hinj j k g2 hk (by have := hz j g2; omega)
        omega
      rcases Nat.lt_or_gt_of_ne hne with c | c
      · have := hO.gap _ _ c hi0
        have := hO.w1
        omega
      · have := hO.gap _ _ c g3
        omega
    · rw [if_neg e]; exact g
  · unfold upI
    by_cases e : j = k
    · subst e
      rw [hzk, if_pos rfl]
      exact ⟨h1, (hown (by omega)).2.1⟩
    · have hne : (z j).toNat ≠ i := fun q1 => e (hinj j k (by omega) hk (by have := hz j (by omega); have := hz k hk; omega))
      rw [if_neg hne]; exact h.done j (by omega) g3
theorem kc_of {g b3 cq : Nat} {pq : Option Addr} {q : List Rq} {wt wk : World} {L : List Ent} (h : HP Tr wt wk L) (hbx : ∀ i9, i9 < 1 → wt.rangeAt b3 0 [.slice pq q.length cq]) (hI : InQ wt pq q) (hq : q.length ≤ 1000) (hg : wt.heap.size ≤ g) : KC g b3 q.length (fun v => qT q v.toNat) wk := by
  intro w' hp i j hi hj
  obtain ⟨a, rfl⟩ := Int.eq_ofNat_of_zero_le hi.1
  obtain ⟨c, rfl⟩ := Int.eq_ofNat_of_zero_le hj.1
  have hW : HP (Ng g) wt w' [] := transN ((h.sub (List.nil_sublist _)).weaken (fun _ _ => trivial)) hp
  have lt : ∀ {bk off : Nat} {v : Value} {vs : List Value}, wt.rangeAt bk off (v :: vs) → bk ≠ g := fun hr e => by
    have : _ < wt.heap.size := World.block_lt_of_cell? wt _ (hr 0 _ rfl)
    simp at this
    omega
  have q1 := key_any b3 cq pq q a c w' (fun i9 h9 => HP.oldRange hW (lt (hbx 0 (by omega))) (hbx 0 (by omega)))
    (fun h0 => by obtain ⟨gq, oq, e, hr⟩ := hI h0; exact ⟨gq, oq, e, fun i hi => HP.oldRange hW (lt (hr i hi)) (hr i hi)⟩) (by omega) (by omega) hq
  exact q1
theorem noTick_at {W : Wh} {b7 : Nat} {mi t n : Int} {w : World} (hm : 0 ≤ mi ∧ mi < 4) (hcl : ∀ m, m < 4 → w.cell? ⟨b7, 1 + m, none⟩ = some (W.v (m + 1))) (hn : ∀ m : Nat, (m : Int) = mi → 0 < W.n (m + 1)) :
    Calls Try.prog 31 #[.agg #[vI mi, vI t, vI n], vP b7 0] w fun e w' => e = .returned (.bool false) ∧ Below w.heap.size w w' := by
  obtain ⟨m, rfl⟩ := Int.eq_ofNat_of_zero_le hm.1
  exact noTick_any W b7 m t n w (by omega) hcl (hn m rfl)
theorem end_at {W : Wh} {l : List Int} {m : Nat} {mi x n v : Int} {w : World} (hW : WhOk w W l) (he : mi = (m : Int)) (hm : m < 4) (hx0 : 0 ≤ x) (hx1 : x ≤ 10000000) (hn0 : 1 ≤ n) (hn1 : n ≤ 100) (hL : 0 < (posI l mi).length) (hv : v = endV (l.length : Int) (posI l mi) x n) :
    Calls Try.prog 21 #[.agg #[.slice (W.p 0) (W.n 0) (W.c 0), .slice (W.p 1) (W.n 1) (W.c 1), .slice (W.p 2) (W.n 2) (W.c 2), .slice (W.p 3) (W.n 3) (W.c 3), .slice (W.p 4) (W.n 4) (W.c 4)], vI mi, vI x, vI n] w fun e w' => e = .returned (.int .i64 v) ∧ Below w.heap.size w w' := by
  subst he hv
  exact end_any W l m x n w hW hm hx0 hx1 hn0 hn1 hL
set_option maxRecDepth 20000 in
set_option maxHeartbeats 4000000 in
theorem serve_any (p : Option Addr) (N cap : Nat) (o sp : Nat → Int) (pq : Option Addr) (cq : Nat) (q : List Rq) (m0 tk wv : Int) (n0 : Nat) (w : World) (hS : InS w p N o sp) (hI : InQ w pq q) (hl : okL o sp N = true) (hr : ∀ i, i < q.length → okR (qM q i) (qT q i) (qN q i) = true ∧ 0 < (posI (owl o sp N) (qM q i)).length) (hq : q.length ≤ 40) (hO : OwnOk (owl o sp N) q m0 tk wv n0) :
    Calls Try.prog 16 #[.slice p N cap, .slice pq q.length cq] w fun e w' => ∃ g4 g5 B E, e = .returned (.tuple #[vS g4 q.length q.length, vS g5 q.length q.length, vI 0]) ∧ (∀ i, i < n0 → 1 ≤ E i ∧ E i - qT q i ≤ wv) ∧ HP Tr w w' [.cel g4 (irow q.length B) 3, .cel g5 (irow q.length E) 3] := by
  have hN8 := okL_iff.1 hl
  refine calls_of Try.func16 rfl (m := 96) rfl [(0, .slice p N cap), (1, .slice pq q.length cq)] (Fr_enter [.slice p N cap, .slice pq q.length cq] 96 (Nat.le_of_ble_eq_true rfl)) ?_
  have hH1 : HP Tr w w [] := HP.refl w
  refine WC.seq fun K2 hK2 => ?_
  refine WC.region ?_
  refine WL.alloc (c := #[.slice pq q.length cq]) (T := 24) hH1 3 rfl (by decide) rfl rfl (fun b3 => vP b3 0) (by kernel_rfl) (fun b3 w3 hw3 => ?_)
  have hH4 : HP Tr w w3 [.cel b3 #[.slice pq q.length cq] 24] := hw3.2
  have nb3 := hw3.1
  clear hw3
  refine WL.pure (v := .slice none 0 0) 4 rfl (Nat.le_of_ble_eq_true rfl) rfl rfl (by kernel_rfl) ?_
  refine WL.pure (v := .slice none 0 0) 5 rfl (Nat.le_of_ble_eq_true rfl) rfl rfl (by kernel_rfl) ?_
  refine WL.pure (v := vI 0) 6 rfl (Nat.le_of_ble_eq_true rfl) rfl rfl (by kernel_rfl) ?_
  refine WL.nil ?_
  refine WQ.then ?_
  refine hK2 _ _ _ ?_
  refine WC.seq fun K5 hK5 => ?_
  refine WC.block ?_
  refine WC.seq fun K6 hK6 => ?_
  refine WC.region ?_
  refine WL.pure (v := .slice p N cap) 15 rfl (Nat.le_of_ble_eq_true rfl) rfl rfl (by kernel_rfl) ?_
  refine WL.call (f := 17) (args := #[.slice p N cap]) 16 rfl (Nat.le_of_ble_eq_true rfl) rfl rfl (by kernel_rfl) ?_
  refine (bvalid_at hl p cap _ (hS.below (HP.below hH4)) (by omega)).mono ?_
  rintro e w7 ⟨rfl, hb8⟩
  refine ⟨_, rfl, ?_⟩
  have hH9 : HP Tr w _ [.cel b3 #[.slice pq q.length cq] 24] := HP.call hH4 hb8
  refine WL.pure (v := .bool false) 17 rfl (Nat.le_of_ble_eq_true rfl) rfl rfl (by kernel_rfl) ?_
  refine WL.pure (v := .bool false) 18 rfl (Nat.le_of_ble_eq_true rfl) rfl rfl (by kernel_rfl) ?_
  refine WL.pure (v := .slice pq q.length cq) 19 rfl (Nat.le_of_ble_eq_true rfl) rfl rfl (x_load rfl rfl Try.underlying24 rfl (HP.cell hH9 0 rfl rfl)) ?_
  refine WL.call (f := 29) (args := #[.slice pq q.length cq, .func (.func 30) #[] #[]]) 20 rfl (Nat.le_of_ble_eq_true rfl) rfl rfl (by kernel_rfl) ?_
  refine (containsF1_any pq cq q _ (hI.below (HP.below hH9)) (by omega) (fun w2 h2 i hi => badR_any _ _ _ w2 (hr i hi).1)).mono ?_
  rintro e w10 ⟨rfl, hb11⟩
  refine ⟨_, rfl, ?_⟩
  have hH12 : HP Tr w _ [.cel b3 #[.slice pq q.length cq] 24] := HP.call hH9 hb11
  refine WL.pure (v := .bool false) 21 rfl (Nat.le_of_ble_eq_true rfl) rfl rfl (by kernel_rfl) ?_
  refine WL.pure (v := .bool false) 14 rfl (Nat.le_of_ble_eq_true rfl) rfl rfl (by kernel_rfl) ?_
  refine WL.nil ?_
  refine WQ.then ?_
  refine hK6 _ _ _ ?_
  refine WC.sub (l' := [(0, .slice p N cap), (1, .slice pq q.length cq), (3, vP b3 0), (4, .slice none 0 0), (5, .slice none 0 0), (6, vI 0), (14, .bool false)]) ⟨rfl, rfl, rfl, rfl, rfl, rfl, rfl, trivial⟩ ?_
  refine WC.no rfl ?_
  refine WC.seq fun K13 hK13 => ?_
  refine WC.region ?_
  refine WL.pure (v := .slice pq q.length cq) 23 rfl (Nat.le_of_ble_eq_true rfl) rfl rfl (x_load rfl rfl Try.underlying24 rfl (HP.cell hH12 0 rfl rfl)) ?_
  refine WL.pure (v := vI (q.length : Int)) 24 rfl (Nat.le_of_ble_eq_true rfl) rfl rfl (by kernel_rfl) ?_
  refine WL.pure (v := .bool false) 25 rfl (Nat.le_of_ble_eq_true rfl) rfl rfl (x_gtr rfl rfl rfl (dF (by omega))) ?_
  refine WL.pure (v := .bool false) 22 rfl (Nat.le_of_ble_eq_true rfl) rfl rfl (by kernel_rfl) ?_
  refine WL.nil ?_
  refine WQ.then ?_
  refine hK13 _ _ _ ?_
  refine WC.no rfl ?_
  refine WC.skip ?_
  refine WQ.inNormal ?_
  refine WQ.then ?_
  refine hK5 _ _ _ ?_
  refine WC.seq fun K14 hK14 => ?_
  refine WC.region ?_
  refine WL.pure (v := .slice p N cap) 26 rfl (Nat.le_of_ble_eq_true rfl) rfl rfl (by kernel_rfl) ?_
  refine WL.call (f := 19) (args := #[.slice p N cap]) 27 rfl (Nat.le_of_ble_eq_true rfl) rfl rfl (by kernel_rfl) ?_
  refine (turning_any p N cap o sp _ (hS.below (HP.below hH12)) (okL_iff.1 hl)).mono ?_
  rintro e wt ⟨W, rfl, hWh, hbt⟩
  refine ⟨_, rfl, ?_⟩
  have hHt := HP.call hH12 hbt
  have hQ := hI.below (HP.below hHt)
  have hbx : ∀ i9, i9 < 1 → World.rangeAt wt b3 0 [.slice pq q.length cq] := fun i9 h9 => HP.range hHt 0 rfl rfl
  have hl1 := hWh.l1
  have hl4 := hWh.l4
  have hH15 : HP Tr wt wt [] := HP.refl wt
  refine WL.alloc (c := #[.slice none 0 0, .slice none 0 0, .slice none 0 0, .slice none 0 0, .slice none 0 0]) (T := 55) hH15 7 rfl (by decide) rfl rfl (fun b7 => vP b7 0) (by kernel_rfl) (fun b7 w16 hw16 => ?_)
  have hH17 : HP Tr wt w16 [.cel b7 #[.slice none 0 0, .slice none 0 0, .slice none 0 0, .slice none 0 0, .slice none 0 0] 55] := hw16.2
  have nb7 := hw16.1
  clear hw16
  refine WL.storeS (H2 := [.cel b7 #[.slice (W.p 0) (W.n 0) (W.c 0), .slice (W.p 1) (W.n 1) (W.c 1), .slice (W.p 2) (W.n 2) (W.c 2), .slice (W.p 3) (W.n 3) (W.c 3), .slice (W.p 4) (W.n 4) (W.c 4)] 55]) 0 hH17 rfl rfl rfl rfl rfl rfl sz55 rfl (Nat.le_of_ble_eq_true rfl) rfl rfl ?_
  intro w18 hH19
  refine WL.nil ?_
  refine WQ.then ?_
  refine hK14 _ _ _ ?_
  refine WC.seq fun K20 hK20 => ?_
  refine WC.seq fun K21 hK21 => ?_
  refine WC.region ?_
  refine WL.pure (v := .slice pq q.length cq) 28 rfl (Nat.le_of_ble_eq_true rfl) rfl rfl (x_load rfl rfl Try.underlying24 rfl ((HP.oldRange hH19 trivial (hbx 0 (by omega))) 0 _ rfl)) ?_
  refine WL.pure (v := .func (.func 31) #[] #[vP b7 0]) 29 rfl (Nat.le_of_ble_eq_true rfl) rfl rfl (by kernel_rfl) ?_
  refine WL.call (f := 29) (args := #[.slice pq q.length cq, .func (.func 31) #[] #[vP b7 0]]) 30 rfl (Nat.le_of_ble_eq_true rfl) rfl rfl (by kernel_rfl) ?_
  refine (containsF2_any b7 pq cq q _ (hQ.below (HP.below hH19)) (by omega) (fun w2 h2 i hi => noTick_at (okR_iff.1 (hr i hi).1).1 (fun m hm => (HP.of_below (S := Tr) h2).old trivial (HP.cell hH19 0 rfl (wh_get W hm))) (fun m hm => by rw [hWh.len m (by have := (okR_iff.1 (hr i hi).1).1; omega), hm]; exact (hr i hi).2))).mono ?_
  rintro e w22 ⟨rfl, hb23⟩
  refine ⟨_, rfl, ?_⟩
  have hH24 : HP Tr wt _ [.cel b7 #[.slice (W.p 0) (W.n 0) (W.c 0), .slice (W.p 1) (W.n 1) (W.c 1), .slice (W.p 2) (W.n 2) (W.c 2), .slice (W.p 3) (W.n 3) (W.c 3), .slice (W.p 4) (W.n 4) (W.c 4)] 55] := HP.call hH19 hb23
  refine WL.nil ?_
  refine WQ.then ?_
  refine hK21 _ _ _ ?_
  refine WC.sub (l' := [(0, .slice p N cap), (1, .slice pq q.length cq), (3, vP b3 0), (4, .slice none 0 0), (5, .slice none 0 0), (6, vI 0), (7, vP b7 0), (14, .bool false), (22, .bool false), (30, .bool false)]) ⟨rfl, rfl, rfl, rfl, rfl, rfl, rfl, rfl, rfl, rfl, trivial⟩ ?_
  refine WC.no rfl ?_
  refine WC.skip ?_
  refine WQ.then ?_
  refine hK20 _ _ _ ?_
  refine WC.seq fun K25 hK25 => ?_
  refine WC.region ?_
  refine WL.pure (v := .slice pq q.length cq) 31 rfl (Nat.le_of_ble_eq_true rfl) rfl rfl (x_load rfl rfl Try.underlying24 rfl ((HP.oldRange hH24 trivial (hbx 0 (by omega))) 0 _ rfl)) ?_
  refine WL.pure (v := vI (q.length : Int)) 32 rfl (Nat.le_of_ble_eq_true rfl) rfl rfl (by kernel_rfl) ?_
  refine WL.alloc (c := irow q.length (fun _ => 0)) (T := 3) hH24 33 rfl (by decide) rfl rfl (fun g8 => vS g8 q.length q.length) (x_makeR rfl rfl rfl (makeI2 q.length (by omega) _)) (fun g8 w9 hw9 => ?_)
  have hH26 : HP Tr wt w9 [.cel b7 #[.slice (W.p 0) (W.n 0) (W.c 0), .slice (W.p 1) (W.n 1) (W.c 1), .slice (W.p 2) (W.n 2) (W.c 2), .slice (W.p 3) (W.n 3) (W.c 3), .slice (W.p 4) (W.n 4) (W.c 4)] 55, .cel g8 (irow q.length (fun _ => 0)) 3] := hw9.2
  clear hw9
  refine WL.pure (v := vS g8 q.length q.length) 8 rfl (Nat.le_of_ble_eq_true rfl) rfl rfl (by kernel_rfl) ?_
  refine WL.nil ?_
  refine WQ.then ?_
  refine hK25 _ _ _ ?_
  refine WC.seq fun K27 hK27 => ?_
  refine WC.seq fun K28 hK28 => ?_
  refine WC.region ?_
  refine WL.pure (v := vS g8 q.length q.length) 34 rfl (Nat.le_of_ble_eq_true rfl) rfl rfl (by kernel_rfl) ?_
  refine WL.pure (v := vI (q.length : Int)) 35 rfl (Nat.le_of_ble_eq_true rfl) rfl rfl (by kernel_rfl) ?_
  refine WL.pure (v := vI 0) 36 rfl (Nat.le_of_ble_eq_true rfl) rfl rfl (by kernel_rfl) ?_
  refine WL.nil ?_
  refine WQ.then ?_
  refine hK28 _ _ _ ?_
  refine WC.block ?_
  refine WC.loop (fun kk0 ll0 ww0 => ∃ (i : Nat) (y : Nat → Int), ll0 = [(3, vP b3 0), (7, vP b7 0), (8, vS g8 q.length q.length), (35, vI (q.length : Int)), (36, vI (i : Int))] ∧ kk0 = q.length - i ∧ (i ≤ q.length) ∧ (∀ j, j < i → y j = (j : Int)) ∧ HP Tr wt ww0 [.cel b7 #[.slice (W.p 0) (W.n 0) (W.c 0), .slice (W.p 1) (W.n 1) (W.c 1), .slice (W.p 2) (W.n 2) (W.c 2), .slice (W.p 3) (W.n 3) (W.c 3), .slice (W.p 4) (W.n 4) (W.c 4)] 55, .cel g8 (irow q.length y) 3]) (q.length) [(3, vP b3 0), (7, vP b7 0), (8, vS g8 q.length q.length), (35, vI (q.length : Int)), (36, vI 0)] ⟨rfl, rfl, rfl, rfl, rfl, trivial⟩ ⟨0, (fun _ => 0), rfl, rfl, Nat.zero_le _, fun j h => absurd h (Nat.not_lt_zero _), hH26⟩ ?_
  rintro kk l w30 ⟨i, y, rfl, hkk, hi, hy, hH31⟩ K29 hK29
  refine WC.seq fun K32 hK32 => ?_
  refine WC.region ?_
  by_cases hlt : (i : Int) < (q.length : Int)
  ·
    refine WL.pure (v := .bool true) 37 rfl (Nat.le_of_ble_eq_true rfl) rfl rfl (x_lss rfl rfl rfl (dT (hlt))) ?_
    refine WL.nil ?_
    refine WQ.then ?_
    refine hK32 _ _ _ ?_
    refine WC.seq fun K33 hK33 => ?_
    refine WC.yes rfl ?_
    refine WC.skip ?_
    refine WQ.then ?_
    refine hK33 _ _ _ ?_
    refine WC.seq fun K34 hK34 => ?_
    refine WC.block ?_
    refine WC.seq fun K35 hK35 => ?_
    refine WC.region ?_
    refine WL.pure (v := vI (i : Int)) 38 rfl (Nat.le_of_ble_eq_true rfl) rfl rfl (by kernel_rfl) ?_
    refine WL.pure (v := vI (i : Int)) 9 rfl (Nat.le_of_ble_eq_true rfl) rfl rfl (by kernel_rfl) ?_
    refine WL.nil ?_
    refine WQ.then ?_
    refine hK35 _ _ _ ?_
    refine WC.region ?_
    refine WL.pure (v := vS g8 q.length q.length) 39 rfl (Nat.le_of_ble_eq_true rfl) rfl rfl (by kernel_rfl) ?_
    refine WL.pure (v := vI (i : Int)) 40 rfl (Nat.le_of_ble_eq_true rfl) rfl rfl (by kernel_rfl) ?_
    refine WL.pure (v := vI (i : Int)) 41 rfl (Nat.le_of_ble_eq_true rfl) rfl rfl (by kernel_rfl) ?_
    refine WL.pure (v := vP g8 i) 42 rfl (Nat.le_of_ble_eq_true rfl) rfl rfl (x_idx (i) (i) rfl rfl rfl Try.underlying23 sz3 (by omega) (by omega) (by omega)) ?_
    refine WL.store (H2 := [.cel b7 #[.slice (W.p 0) (W.n 0) (W.c 0), .slice (W.p 1) (W.n 1) (W.c 1), .slice (W.p 2) (W.n 2) (W.c 2), .slice (W.p 3) (W.n 3) (W.c 3), .slice (W.p 4) (W.n 4) (W.c 4)] 55, .cel g8 (irow q.length (upI y i (i : Int))) 3]) 1 hH31 rfl rfl rfl rfl rfl rfl sz3 rfl (by simp [size_irow]; omega) (irow_set _ _ _ _) rfl ?_
    intro w36 hH37
    refine WL.nil ?_
    refine WQ.inNormal ?_
    refine WQ.then ?_
    refine hK34 _ _ _ ?_
    refine WC.region ?_
    refine WL.pure (v := vI ((i + 1 : Nat) : Int)) 43 rfl (Nat.le_of_ble_eq_true rfl) rfl rfl (x_add (Z := ((i + 1 : Nat) : Int)) rfl rfl rfl (by omega) (by omega) (by omega)) ?_
    refine WL.pure (v := vI ((i + 1 : Nat) : Int)) 36 rfl (Nat.le_of_ble_eq_true rfl) rfl rfl (by kernel_rfl) ?_
    refine WL.nil ?_
    refine WQ.sub (l' := [(3, vP b3 0), (7, vP b7 0), (8, vS g8 q.length q.length), (35, vI (q.length : Int)), (36, vI ((i + 1 : Nat) : Int))]) ⟨rfl, rfl, rfl, rfl, rfl, trivial⟩ ?_
    refine WQ.then (hK29 _ _ _ (by omega) ⟨i + 1, upI y i (i : Int), rfl, rfl, by omega, fun j hj => by
                                            unfold upI
                                            split
                                            · rename_i e; rw [e]
                                            · exact hy j (by omega), hH37⟩)
  ·
    refine WL.pure (v := .bool false) 37 rfl (Nat.le_of_ble_eq_true rfl) rfl rfl (x_lss rfl rfl rfl (dF (hlt))) ?_
    refine WL.nil ?_
    refine WQ.then ?_
    refine hK32 _ _ _ ?_
    refine WC.seq fun K38 hK38 => ?_
    refine WC.no rfl ?_
    refine WC.exit ?_
    refine WQ.thenExit ?_
    refine WQ.thenExit ?_
    refine WQ.inExit ?_
    refine WQ.then ?_
    refine hK27 _ _ _ ?_
    refine WC.seq fun K39 hK39 => ?_
    refine WC.region ?_
    refine WL.pure (v := vS g8 q.length q.length) 44 rfl (Nat.le_of_ble_eq_true rfl) rfl rfl (by kernel_rfl) ?_
    refine WL.pure (v := .func (.func 33) #[] #[vP b3 0]) 45 rfl (Nat.le_of_ble_eq_true rfl) rfl rfl (by kernel_rfl) ?_
    refine WL.call (f := 32) (args := #[vS g8 q.length q.length, .func (.func 33) #[] #[vP b3 0]]) 46 rfl (Nat.le_of_ble_eq_true rfl) rfl rfl (by kernel_rfl) ?_
    have hg8 : wt.heap.size ≤ g8 := HP.new hH31 1 rfl rfl
    refine (sortS_any g8 b3 q.length q.length (fun v => qT q v.toNat) y _ (HP.ownB (A := [.cel b7 #[.slice (W.p 0) (W.n 0) (W.c 0), .slice (W.p 1) (W.n 1) (W.c 1), .slice (W.p 2) (W.n 2) (W.c 2), .slice (W.p 3) (W.n 3) (W.c 3), .slice (W.p 4) (W.n 4) (W.c 4)] 55]) hH31) (kc_of hH31 hbx hQ (by omega) hg8) (by omega) (fun i hi => by rw [hy i (by omega)]; omega)).mono ?_
    rintro e w40 ⟨z, rfl, ⟨hPz, hSz⟩, hb4⟩
    refine ⟨_, rfl, ?_⟩
    have hH41 : HP Tr wt _ [.cel b7 #[.slice (W.p 0) (W.n 0) (W.c 0), .slice (W.p 1) (W.n 1) (W.c 1), .slice (W.p 2) (W.n 2) (W.c 2), .slice (W.p 3) (W.n 3) (W.c 3), .slice (W.p 4) (W.n 4) (W.c 4)] 55, .cel g8 (irow q.length z) 3] := HP.exch (A := [.cel b7 #[.slice (W.p 0) (W.n 0) (W.c 0), .slice (W.p 1) (W.n 1) (W.c 1), .slice (W.p 2) (W.n 2) (W.c 2), .slice (W.p 3) (W.n 3) (W.c 3), .slice (W.p 4) (W.n 4) (W.c 4)] 55]) hH31 (hb4.weaken fun k hk => out_ng hk)
    have hz : ∀ j, j < q.length → 0 ≤ z j ∧ z j < (q.length : Int) := hPz.bd (Nat.le_refl _) (fun i hi => by rw [hy i (by omega)]; omega)
    have hinj : ∀ j1 j2, j1 < q.length → j2 < q.length → z j1 = z j2 → j1 = j2 := fun j1 j2 g1 g2 g3 => hPz.inj (fun j hj => hy j (by omega)) g1 g2 g3
    refine WL.nil ?_
    refine WQ.then ?_
    refine hK39 _ _ _ ?_
    refine WC.seq fun K42 hK42 => ?_
    refine WC.confG (γ := Nat × Nat × Unit) [(45, .func (.func 33) #[] #[vP b3 0]), (44, vS g8 q.length q.length), (37, .bool false), (3, vP b3 0), (7, vP b7 0), (8, vS g8 q.length q.length), (35, vI (q.length : Int)), (36, vI (i : Int))] (fun gy => [.slice pq q.length cq, vI (q.length : Int), vS gy.1 q.length q.length, .slice pq q.length cq, vI (q.length : Int), vS gy.2.1 q.length q.length, vS gy.1 q.length q.length, vS gy.2.1 q.length q.length]) (fun gy D wz => HP Tr wt wz ([.cel b7 #[.slice (W.p 0) (W.n 0) (W.c 0), .slice (W.p 1) (W.n 1) (W.c 1), .slice (W.p 2) (W.n 2) (W.c 2), .slice (W.p 3) (W.n 3) (W.c 3), .slice (W.p 4) (W.n 4) (W.c 4)] 55, .cel g8 (irow q.length z) 3] ++ ((bif D 2 then [Ent.cel gy.1 (irow q.length (fun _ => 0)) 3] else []) ++ ((bif D 5 then [Ent.cel gy.2.1 (irow q.length (fun _ => 0)) 3] else []) ++ [])))) (0, 0, ()) (by kernel_rfl) ⟨rfl, rfl, rfl, rfl, rfl, rfl, rfl, rfl, trivial⟩ (by kernel_rfl) (by kernel_rfl) (by kernel_rfl) (fun _ => rfl) (by kernel_rfl) (HP.drew hH41) ?_ ?_
    · refine AllOk.cons ?o0 (AllOk.cons ?o1 (AllOk.cons ?o2 (AllOk.cons ?o3 (AllOk.cons ?o4 (AllOk.cons ?o5 (AllOk.cons ?o6 (AllOk.cons ?o7 (AllOk.nil _))))))))
      case o0 =>
        intro gy D wz hDi hdep hclo hW
        exact .inl ⟨rfl, rfl, .inl ⟨gy, wz, fun _ _ => rfl, x_load rfl rfl Try.underlying24 rfl ((HP.oldRange hW trivial (hbx 0 (by omega))) 0 _ rfl), hW⟩⟩
      case o1 =>
        intro gy D wz hDi hdep hclo hW
        exact .inl ⟨rfl, rfl, .inl ⟨gy, wz, fun _ _ => rfl, by kernel_rfl, hW⟩⟩
      case o2 =>
        intro gy D wz hDi hdep hclo hW
        have d6 : D 6 = false := by
          cases h : D 6 with
          | false => rfl
          | true => exact absurd (hclo 6 _ rfl h ⟨2, .data⟩ (by simp) rfl) (by rw [hDi]; exact Bool.false_ne_true)
        cases hku5 : D 5 with
        | false =>
          have hW2 := hW
          try simp only [hku5, hDi, cond_true, cond_false, List.append_nil, List.nil_append, List.cons_append] at hW2
          refine cf_alloc (c := irow q.length (fun _ => 0)) (T := 3) hW2 (fun g4 => vS g4 q.length q.length) rfl rfl (x_makeR rfl rfl rfl (makeI2 q.length (by omega) _)) ?_
          rintro g4 w3 hA
          refine ⟨⟨g4, gy.2.1, ()⟩, fun j hj => ?_, rfl, ?_⟩
          · match j, hj with
            | 0, hj => rfl
            | 1, hj => rfl
            | 2, hj => rw [hDi] at hj; cases hj
            | 3, hj => rfl
            | 4, hj => rfl
            | 5, hj => rfl
            | 6, hj => exact absurd hj (by rw [d6]; exact Bool.false_ne_true)
            | 7, hj => rfl
            | j + 8, _ => rfl
          · show HP Tr wt w3 ([.cel b7 #[.slice (W.p 0) (W.n 0) (W.c 0), .slice (W.p 1) (W.n 1) (W.c 1), .slice (W.p 2) (W.n 2) (W.c 2), .slice (W.p 3) (W.n 3) (W.c 3), .slice (W.p 4) (W.n 4) (W.c 4)] 55, .cel g8 (irow q.length z) 3] ++ ([Ent.cel g4 (irow q.length (fun _ => 0)) 3] ++ ((bif D 5 then [Ent.cel gy.2.1 (irow q.length (fun _ => 0)) 3] else []) ++ [])))
            try simp only [hku5, cond_true, cond_false, List.append_nil, List.nil_append, List.cons_append]
            exact hA
        | true =>
          have hW2 := hW
          try simp only [hku5, hDi, cond_true, cond_false, List.append_nil, List.nil_append, List.cons_append] at hW2
          refine cf_alloc (c := irow q.length (fun _ => 0)) (T := 3) hW2 (fun g4 => vS g4 q.length q.length) rfl rfl (x_makeR rfl rfl rfl (makeI2 q.length (by omega) _)) ?_
          rintro g4 w3 hA
          refine ⟨⟨g4, gy.2.1, ()⟩, fun j hj => ?_, rfl, ?_⟩
          · match j, hj with
            | 0, hj => rfl
            | 1, hj => rfl
            | 2, hj => rw [hDi] at hj; cases hj
            | 3, hj => rfl
            | 4, hj => rfl
            | 5, hj => rfl
            | 6, hj => exact absurd hj (by rw [d6]; exact Bool.false_ne_true)
            | 7, hj => rfl
            | j + 8, _ => rfl
          · show HP Tr wt w3 ([.cel b7 #[.slice (W.p 0) (W.n 0) (W.c 0), .slice (W.p 1) (W.n 1) (W.c 1), .slice (W.p 2) (W.n 2) (W.c 2), .slice (W.p 3) (W.n 3) (W.c 3), .slice (W.p 4) (W.n 4) (W.c 4)] 55, .cel g8 (irow q.length z) 3] ++ ([Ent.cel g4 (irow q.length (fun _ => 0)) 3] ++ ((bif D 5 then [Ent.cel gy.2.1 (irow q.length (fun _ => 0)) 3] else []) ++ [])))
            try simp only [hku5, cond_true, cond_false, List.append_nil, List.nil_append, List.cons_append]
            exact HP.perm hA (List.Perm.append_left [Ent.cel b7 #[.slice (W.p 0) (W.n 0) (W.c 0), .slice (W.p 1) (W.n 1) (W.c 1), .slice (W.p 2) (W.n 2) (W.c 2), .slice (W.p 3) (W.n 3) (W.c 3), .slice (W.p 4) (W.n 4) (W.c 4)] 55, Ent.cel g8 (irow q.length z) 3] (List.perm_append_comm (l₁ := [Ent.cel gy.2.1 (irow q.length (fun _ => 0)) 3]) (l₂ := [Ent.cel g4 (irow q.length (fun _ => 0)) 3])))
      case o3 =>
        intro gy D wz hDi hdep hclo hW
        exact .inl ⟨rfl, rfl, .inl ⟨gy, wz, fun _ _ => rfl, x_load rfl rfl Try.underlying24 rfl ((HP.oldRange hW trivial (hbx 0 (by omega))) 0 _ rfl), hW⟩⟩
      case o4 =>
        intro gy D wz hDi hdep hclo hW
        exact .inl ⟨rfl, rfl, .inl ⟨gy, wz, fun _ _ => rfl, by kernel_rfl, hW⟩⟩
      case o5 =>
        intro gy D wz hDi hdep hclo hW
        have d7 : D 7 = false := by
          cases h : D 7 with
          | false => rfl
          | true => exact absurd (hclo 7 _ rfl h ⟨5, .data⟩ (by simp) rfl) (by rw [hDi]; exact Bool.false_ne_true)
        cases hku2 : D 2 with
        | false =>
          have hW2 := hW
          try simp only [hku2, hDi, cond_true, cond_false, List.append_nil, List.nil_append, List.cons_append] at hW2
          refine cf_alloc (c := irow q.length (fun _ => 0)) (T := 3) hW2 (fun g5 => vS g5 q.length q.length) rfl rfl (x_makeR rfl rfl rfl (makeI2 q.length (by omega) _)) ?_
          rintro g5 w3 hA
          refine ⟨⟨gy.1, g5, ()⟩, fun j hj => ?_, rfl, ?_⟩
          · match j, hj with
            | 0, hj => rfl
            | 1, hj => rfl
            | 2, hj => rfl
            | 3, hj => rfl
            | 4, hj => rfl
            | 5, hj => rw [hDi] at hj; cases hj
            | 6, hj => rfl
            | 7, hj => exact absurd hj (by rw [d7]; exact Bool.false_ne_true)
            | j + 8, _ => rfl
          · show HP Tr wt w3 ([.cel b7 #[.slice (W.p 0) (W.n 0) (W.c 0), .slice (W.p 1) (W.n 1) (W.c 1), .slice (W.p 2) (W.n 2) (W.c 2), .slice (W.p 3) (W.n 3) (W.c 3), .slice (W.p 4) (W.n 4) (W.c 4)] 55, .cel g8 (irow q.length z) 3] ++ ((bif D 2 then [Ent.cel gy.1 (irow q.length (fun _ => 0)) 3] else []) ++ ([Ent.cel g5 (irow q.length (fun _ => 0)) 3] ++ [])))
            try simp only [hku2, cond_true, cond_false, List.append_nil, List.nil_append, List.cons_append]
            exact hA
        | true =>
          have hW2 := hW
          try simp only [hku2, hDi, cond_true, cond_false, List.append_nil, List.nil_append, List.cons_append] at hW2
          refine cf_alloc (c := irow q.length (fun _ => 0)) (T := 3) hW2 (fun g5 => vS g5 q.length q.length) rfl rfl (x_makeR rfl rfl rfl (makeI2 q.length (by omega) _)) ?_
          rintro g5 w3 hA
          refine ⟨⟨gy.1, g5, ()⟩, fun j hj => ?_, rfl, ?_⟩
          · match j, hj with
            | 0, hj => rfl
            | 1, hj => rfl
            | 2, hj => rfl
            | 3, hj => rfl
            | 4, hj => rfl
            | 5, hj => rw [hDi] at hj; cases hj
            | 6, hj => rfl
            | 7, hj => exact absurd hj (by rw [d7]; exact Bool.false_ne_true)
            | j + 8, _ => rfl
          · show HP Tr wt w3 ([.cel b7 #[.slice (W.p 0) (W.n 0) (W.c 0), .slice (W.p 1) (W.n 1) (W.c 1), .slice (W.p 2) (W.n 2) (W.c 2), .slice (W.p 3) (W.n 3) (W.c 3), .slice (W.p 4) (W.n 4) (W.c 4)] 55, .cel g8 (irow q.length z) 3] ++ ((bif D 2 then [Ent.cel gy.1 (irow q.length (fun _ => 0)) 3] else []) ++ ([Ent.cel g5 (irow q.length (fun _ => 0)) 3] ++ [])))
            try simp only [hku2, cond_true, cond_false, List.append_nil, List.nil_append, List.cons_append]
            exact hA
      case o6 =>
        intro gy D wz hDi hdep hclo hW
        exact .inl ⟨rfl, rfl, .inl ⟨gy, wz, fun _ _ => rfl, by kernel_rfl, hW⟩⟩
      case o7 =>
        intro gy D wz hDi hdep hclo hW
        exact .inl ⟨rfl, rfl, .inl ⟨gy, wz, fun _ _ => rfl, by kernel_rfl, hW⟩⟩
    rintro ⟨g4, g5, gu⟩ D w43 hall hH44
    simp only [hall 2 (by kernel_rfl), hall 5 (by kernel_rfl), cond_true, List.append_nil, List.nil_append, List.cons_append] at hH44
    clear hall
    refine WQ.sub (l' := [(3, vP b3 0), (4, vS g4 q.length q.length), (5, vS g5 q.length q.length), (7, vP b7 0), (8, vS g8 q.length q.length), (35, vI (q.length : Int)), (36, vI (i : Int)), (37, .bool false)]) ⟨rfl, rfl, rfl, rfl, rfl, rfl, rfl, rfl, trivial⟩ ?_
    refine WQ.then ?_
    refine hK42 _ _ _ ?_
    refine WC.seq fun K45 hK45 => ?_
    refine WC.region ?_
    refine WL.alloc (c := #[vI 0, vI 0, vI 0, vI 0]) (T := 71) hH44 10 rfl (by decide) rfl rfl (fun b10 => vP b10 0) (by kernel_rfl) (fun b10 w46 hw46 => ?_)
    have hH47 : HP Tr wt w46 [.cel b7 #[.slice (W.p 0) (W.n 0) (W.c 0), .slice (W.p 1) (W.n 1) (W.c 1), .slice (W.p 2) (W.n 2) (W.c 2), .slice (W.p 3) (W.n 3) (W.c 3), .slice (W.p 4) (W.n 4) (W.c 4)] 55, .cel g8 (irow q.length z) 3, .cel g4 (irow q.length (fun _ => 0)) 3, .cel g5 (irow q.length (fun _ => 0)) 3, .cel b10 #[vI 0, vI 0, vI 0, vI 0] 71] := hw46.2
    have nb10 := hw46.1
    clear hw46
    refine WL.nil ?_
    refine WQ.then ?_
    refine hK45 _ _ _ ?_
    refine WC.seq fun K48 hK48 => ?_
    refine WC.seq fun K49 hK49 => ?_
    refine WC.region ?_
    refine WL.pure (v := vS g8 q.length q.length) 53 rfl (Nat.le_of_ble_eq_true rfl) rfl rfl (by kernel_rfl) ?_
    refine WL.pure (v := vI (q.length : Int)) 54 rfl (Nat.le_of_ble_eq_true rfl) rfl rfl (by kernel_rfl) ?_
    refine WL.pure (v := vI 0) 55 rfl (Nat.le_of_ble_eq_true rfl) rfl rfl (by kernel_rfl) ?_
    refine WL.nil ?_
    refine WQ.then ?_
    refine hK49 _ _ _ ?_
    refine WC.block ?_
    refine WC.loop (fun kk0 ll0 ww0 => ∃ (k : Nat) (B : Nat → Int) (E : Nat → Int) (LM : Nat → Int), ll0 = [(3, vP b3 0), (4, vS g4 q.length q.length), (5, vS g5 q.length q.length), (7, vP b7 0), (10, vP b10 0), (53, vS g8 q.length q.length), (54, vI (q.length : Int)), (55, vI (k : Int))] ∧ kk0 = q.length - k ∧ (k ≤ q.length) ∧ (Sv q m0 wv n0 z k LM E) ∧ HP Tr wt ww0 [.cel b7 #[.slice (W.p 0) (W.n 0) (W.c 0), .slice (W.p 1) (W.n 1) (W.c 1), .slice (W.p 2) (W.n 2) (W.c 2), .slice (W.p 3) (W.n 3) (W.c 3), .slice (W.p 4) (W.n 4) (W.c 4)] 55, .cel g8 (irow q.length z) 3, .cel g4 (irow q.length B) 3, .cel g5 (irow q.length E) 3, .cel b10 (irow 4 LM) 71]) (q.length) [(3, vP b3 0), (4, vS g4 q.length q.length), (5, vS g5 q.length q.length), (7, vP b7 0), (10, vP b10 0), (53, vS g8 q.length q.length), (54, vI (q.length : Int)), (55, vI 0)] ⟨rfl, rfl, rfl, rfl, rfl, rfl, rfl, rfl, trivial⟩ ⟨0, (fun _ => 0), (fun _ => 0), (fun _ => 0), rfl, rfl, Nat.zero_le _, Sv.start (fun i hi => (okR_iff.1 (hr i hi).1).2.1.1) hz, (HP.eq hH47 (by rw [irow4]))⟩ ?_
    rintro kk l w51 ⟨k, B, E, LM, rfl, hkk, hk, hSv, hH52⟩ K50 hK50
    refine WC.seq fun K53 hK53 => ?_
    refine WC.region ?_
    by_cases hlt : (k : Int) < (q.length : Int)
    ·
      refine WL.pure (v := .bool true) 56 rfl (Nat.le_of_ble_eq_true rfl) rfl rfl (x_lss rfl rfl rfl (dT (hlt))) ?_
      refine WL.nil ?_
      refine WQ.then ?_
      refine hK53 _ _ _ ?_
      refine WC.seq fun K54 hK54 => ?_
      refine WC.yes rfl ?_
      refine WC.skip ?_
      refine WQ.then ?_
      refine hK54 _ _ _ ?_
      refine WC.seq fun K55 hK55 => ?_
      refine WC.block ?_
      refine WC.seq fun K56 hK56 => ?_
      have hzk := hz k (by omega)
      obtain ⟨i, hi⟩ : ∃ i : Nat, z k = (i : Int) := ⟨(z k).toNat, by omega⟩
      have hil : i < q.length := by omega
      obtain ⟨hri, hpi⟩ := hr i hil
      obtain ⟨⟨m1, m2⟩, ⟨t1, t2⟩, n1, n2⟩ := okR_iff.1 hri
      obtain ⟨mn, hmn⟩ : ∃ mn : Nat, qM q i = (mn : Int) := ⟨(qM q i).toNat, by omega⟩
      have hmb := hSv.bd mn (by omega)
      obtain ⟨bv, hbv⟩ : ∃ bv, bv = if qT q i < LM mn then LM mn else qT q i := ⟨_, rfl⟩
      have hbv2 : 0 ≤ bv ∧ bv ≤ 10000 + k * 40400 := by rw [hbv]; split <;> omega
      obtain ⟨ev, hev⟩ : ∃ ev, ev = endV ((owl o sp N).length : Int) (posI (owl o sp N) (qM q i)) bv (qN q i) := ⟨_, rfl⟩
      have hed := end_bd (l := (owl o sp N)) (m := qM q i) (x := bv) (n := qN q i) (by omega) (by omega) hpi (by omega) (by omega) n1 n2
      have heg := end_gap (l := (owl o sp N)) (m := qM q i) (x := bv) (n := qN q i) (by omega) (by omega) hpi (by omega) n1 n2
      rw [← hev] at hed heg
      obtain ⟨gq, oq, hpq, hrow⟩ := hQ (by omega)
      have hbx2 := hbx
      rw [hpq] at hbx2
      refine WC.region ?_
      refine WL.pure (v := vP g8 k) 57 rfl (Nat.le_of_ble_eq_true rfl) rfl rfl (x_idx (k) (k) rfl rfl rfl Try.underlying23 sz3 (by omega) (by omega) (by omega)) ?_
      refine WL.pure (v := vI (i : Int)) 58 rfl (Nat.le_of_ble_eq_true rfl) rfl rfl (x_load rfl rfl Try.underlying3 rfl (HP.cell hH52 1 rfl (irow_get (by omega) (hi)))) ?_
      refine WL.pure (v := vI (i : Int)) 12 rfl (Nat.le_of_ble_eq_true rfl) rfl rfl (by kernel_rfl) ?_
      refine WL.nil ?_
      refine WQ.then ?_
      refine hK56 _ _ _ ?_
      refine WC.seq fun K57 hK57 => ?_
      refine WC.region ?_
      refine WL.pure (v := .slice (some ⟨gq, oq, none⟩) q.length cq) 59 rfl (Nat.le_of_ble_eq_true rfl) rfl rfl (x_load rfl rfl Try.underlying24 rfl ((HP.oldRange hH52 trivial (hbx2 0 (by omega))) 0 _ rfl)) ?_
      refine WL.pure (v := vI (i : Int)) 60 rfl (Nat.le_of_ble_eq_true rfl) rfl rfl (by kernel_rfl) ?_
      refine WL.pure (v := vP gq (oq + i * 3)) 61 rfl (Nat.le_of_ble_eq_true rfl) rfl rfl (x_idx (i) (oq + i * 3) rfl rfl rfl Try.underlying24 sz30 (by omega) (by omega) (by omega)) ?_
      refine WL.pure (v := .agg #[vI (qM q i), vI (qT q i), vI (qN q i)]) 62 rfl (Nat.le_of_ble_eq_true rfl) rfl rfl (x_loadS (cs := [vI (qM q i), vI (qT q i), vI (qN q i)]) rfl rfl Try.underlying30 rfl sz30 (HP.oldRange hH52 trivial (hrow i (by omega)))) ?_
      refine WL.alloc (c := #[vI 0, vI 0, vI 0]) (T := 30) hH52 13 rfl (by decide) rfl rfl (fun b13 => vP b13 0) (by kernel_rfl) (fun b13 w58 hw58 => ?_)
      have hH59 : HP Tr wt w58 [.cel b7 #[.slice (W.p 0) (W.n 0) (W.c 0), .slice (W.p 1) (W.n 1) (W.c 1), .slice (W.p 2) (W.n 2) (W.c 2), .slice (W.p 3) (W.n 3) (W.c 3), .slice (W.p 4) (W.n 4) (W.c 4)] 55, .cel g8 (irow q.length z) 3, .cel g4 (irow q.length B) 3, .cel g5 (irow q.length E) 3, .cel b10 (irow 4 LM) 71, .cel b13 #[vI 0, vI 0, vI 0] 30] := hw58.2
      have nb13 := hw58.1
      clear hw58
      refine WL.storeS (H2 := [.cel b7 #[.slice (W.p 0) (W.n 0) (W.c 0), .slice (W.p 1) (W.n 1) (W.c 1), .slice (W.p 2) (W.n 2) (W.c 2), .slice (W.p 3) (W.n 3) (W.c 3), .slice (W.p 4) (W.n 4) (W.c 4)] 55, .cel g8 (irow q.length z) 3, .cel g4 (irow q.length B) 3, .cel g5 (irow q.length E) 3, .cel b10 (irow 4 LM) 71, .cel b13 #[vI (qM q i), vI (qT q i), vI (qN q i)] 30]) 5 hH59 rfl rfl rfl rfl rfl rfl sz30 rfl (Nat.le_of_ble_eq_true rfl) rfl rfl ?_
      intro w60 hH61
      refine WL.nil ?_
      refine WQ.then ?_
      refine hK57 _ _ _ ?_
      refine WC.sub (l' := [(3, vP b3 0), (4, vS g4 q.length q.length), (5, vS g5 q.length q.length), (7, vP b7 0), (10, vP b10 0), (12, vI (i : Int)), (13, vP b13 0), (53, vS g8 q.length q.length), (54, vI (q.length : Int)), (55, vI (k : Int)), (56, .bool true)]) ⟨rfl, rfl, rfl, rfl, rfl, rfl, rfl, rfl, rfl, rfl, rfl, trivial⟩ ?_
      refine WC.seq fun K62 hK62 => ?_
      refine WC.confG (γ := Unit) [(3, vP b3 0), (4, vS g4 q.length q.length), (5, vS g5 q.length q.length), (7, vP b7 0), (10, vP b10 0), (12, vI (i : Int)), (13, vP b13 0), (53, vS g8 q.length q.length), (54, vI (q.length : Int)), (55, vI (k : Int)), (56, .bool true)] (fun gy => [vS g4 q.length q.length, vI (i : Int), vP b13 1, vI (qT q i), vP b13 0, vI (qM q i), vP b10 mn, vI (LM mn), vI bv, vP g4 i, undef]) (fun gy D wz => HP Tr wt wz [.cel b7 #[.slice (W.p 0) (W.n 0) (W.c 0), .slice (W.p 1) (W.n 1) (W.c 1), .slice (W.p 2) (W.n 2) (W.c 2), .slice (W.p 3) (W.n 3) (W.c 3), .slice (W.p 4) (W.n 4) (W.c 4)] 55, .cel g8 (irow q.length z) 3, (bif D 10 then Ent.cel g4 (irow q.length (upI B i bv)) 3 else Ent.cel g4 (irow q.length B) 3), .cel g5 (irow q.length E) 3, .cel b10 (irow 4 LM) 71, .cel b13 #[vI (qM q i), vI (qT q i), vI (qN q i)] 30]) () (by kernel_rfl) ⟨rfl, rfl, rfl, rfl, rfl, rfl, rfl, rfl, rfl, rfl, rfl, trivial⟩ (by kernel_rfl) (by kernel_rfl) (by kernel_rfl) (fun _ => rfl) (by kernel_rfl) (HP.drew hH61) ?_ ?_
      · refine AllOk.cons ?o0 (AllOk.cons ?o1 (AllOk.cons ?o2 (AllOk.cons ?o3 (AllOk.cons ?o4 (AllOk.cons ?o5 (AllOk.cons ?o6 (AllOk.cons ?o7 (AllOk.cons ?o8 (AllOk.cons ?o9 (AllOk.cons ?o10 (AllOk.nil _)))))))))))
        case o0 =>
          intro gy D wz hDi hdep hclo hW
          exact .inl ⟨rfl, rfl, .inl ⟨gy, wz, fun _ _ => rfl, by kernel_rfl, hW⟩⟩
        case o1 =>
          intro gy D wz hDi hdep hclo hW
          exact .inl ⟨rfl, rfl, .inl ⟨gy, wz, fun _ _ => rfl, by kernel_rfl, hW⟩⟩
        case o2 =>
          intro gy D wz hDi hdep hclo hW
          exact .inl ⟨rfl, rfl, .inl ⟨gy, wz, fun _ _ => rfl, by kernel_rfl, hW⟩⟩
        case o3 =>
          intro gy D wz hDi hdep hclo hW
          exact .inl ⟨rfl, rfl, .inl ⟨gy, wz, fun _ _ => rfl, x_load rfl rfl Try.underlying3 rfl (HP.cell hW 5 rfl rfl), hW⟩⟩
        case o4 =>
          intro gy D wz hDi hdep hclo hW
          exact .inl ⟨rfl, rfl, .inl ⟨gy, wz, fun _ _ => rfl, by kernel_rfl, hW⟩⟩
        case o5 =>
          intro gy D wz hDi hdep hclo hW
          exact .inl ⟨rfl, rfl, .inl ⟨gy, wz, fun _ _ => rfl, x_load rfl rfl Try.underlying3 rfl (HP.cell hW 5 rfl rfl), hW⟩⟩
        case o6 =>
          intro gy D wz hDi hdep hclo hW
          exact .inl ⟨rfl, rfl, .inl ⟨gy, wz, fun _ _ => rfl, x_idxArr (mn) (mn) rfl rfl rfl Try.underlying71 sz3 (by omega) (by omega) (by omega), hW⟩⟩
        case o7 =>
          intro gy D wz hDi hdep hclo hW
          exact .inl ⟨rfl, rfl, .inl ⟨gy, wz, fun _ _ => rfl, x_load rfl rfl Try.underlying3 rfl (HP.cell hW 4 rfl (irow_get (by omega) rfl)), hW⟩⟩
        case o8 =>
          intro gy D wz hDi hdep hclo hW
          exact .inl ⟨rfl, rfl, .inl ⟨gy, wz, fun _ _ => rfl, x_max (Z := bv) (t := 0) rfl rfl rfl (hbv.symm), hW⟩⟩
        case o9 =>
          intro gy D wz hDi hdep hclo hW
          exact .inl ⟨rfl, rfl, .inl ⟨gy, wz, fun _ _ => rfl, x_idx (i) (i) rfl rfl rfl Try.underlying23 sz3 (by omega) (by omega) (by omega), hW⟩⟩
        case o10 =>
          intro gy D wz hDi hdep hclo hW
          have hW9 := hW
          simp only [hDi, cond_false] at hW9
          have h4 := HP.set (off := i) (v := vI bv) hW9 2 rfl
          rw [irow_set] at h4
          exact .inl ⟨rfl, rfl, .inr (.inl ⟨_, x_store rfl rfl rfl sz3 rfl (HP.cell hW9 2 rfl (irow_get (by omega) rfl)) (HP.free hW9 2 rfl), rfl, h4⟩)⟩
      rintro gy D w63 hall hH64
      simp only [hall 10 (by kernel_rfl), cond_true, List.append_nil, List.nil_append, List.cons_append] at hH64
      clear hall
      refine WQ.sub (l' := [(3, vP b3 0), (4, vS g4 q.length q.length), (5, vS g5 q.length q.length), (7, vP b7 0), (10, vP b10 0), (12, vI (i : Int)), (13, vP b13 0), (53, vS g8 q.length q.length), (54, vI (q.length : Int)), (55, vI (k : Int)), (56, .bool true)]) ⟨rfl, rfl, rfl, rfl, rfl, rfl, rfl, rfl, rfl, rfl, rfl, trivial⟩ ?_
      refine WQ.then ?_
      refine hK62 _ _ _ ?_
      refine WC.seq fun K65 hK65 => ?_
      refine WC.confG (γ := Unit) [(3, vP b3 0), (4, vS g4 q.length q.length), (5, vS g5 q.length q.length), (7, vP b7 0), (10, vP b10 0), (12, vI (i : Int)), (13, vP b13 0), (53, vS g8 q.length q.length), (54, vI (q.length : Int)), (55, vI (k : Int)), (56, .bool true)] (fun gy => [vS g5 q.length q.length, vI (i : Int), .agg #[.slice (W.p 0) (W.n 0) (W.c 0), .slice (W.p 1) (W.n 1) (W.c 1), .slice (W.p 2) (W.n 2) (W.c 2), .slice (W.p 3) (W.n 3) (W.c 3), .slice (W.p 4) (W.n 4) (W.c 4)], vP b13 0, vI (qM q i), vS g4 q.length q.length, vI (i : Int), vP g4 i, vI bv, vP b13 2, vI (qN q i), vI ev, vP g5 i, undef]) (fun gy D wz => HP Tr wt wz [.cel b7 #[.slice (W.p 0) (W.n 0) (W.c 0), .slice (W.p 1) (W.n 1) (W.c 1), .slice (W.p 2) (W.n 2) (W.c 2), .slice (W.p 3) (W.n 3) (W.c 3), .slice (W.p 4) (W.n 4) (W.c 4)] 55, .cel g8 (irow q.length z) 3, .cel g4 (irow q.length (upI B i bv)) 3, (bif D 13 then Ent.cel g5 (irow q.length (upI E i ev)) 3 else Ent.cel g5 (irow q.length E) 3), .cel b10 (irow 4 LM) 71, .cel b13 #[vI (qM q i), vI (qT q i), vI (qN q i)] 30]) () (by kernel_rfl) ⟨rfl, rfl, rfl, rfl, rfl, rfl, rfl, rfl, rfl, rfl, rfl, trivial⟩ (by kernel_rfl) (by kernel_rfl) (by kernel_rfl) (fun _ => rfl) (by kernel_rfl) (HP.drew hH64) ?_ ?_
      · refine AllOk.cons ?o0 (AllOk.cons ?o1 (AllOk.cons ?o2 (AllOk.cons ?o3 (AllOk.cons ?o4 (AllOk.cons ?o5 (AllOk.cons ?o6 (AllOk.cons ?o7 (AllOk.cons ?o8 (AllOk.cons ?o9 (AllOk.cons ?o10 (AllOk.cons ?o11 (AllOk.cons ?o12 (AllOk.cons ?o13 (AllOk.nil _))))))))))))))
        case o0 =>
          intro gy D wz hDi hdep hclo hW
          exact .inl ⟨rfl, rfl, .inl ⟨gy, wz, fun _ _ => rfl, by kernel_rfl, hW⟩⟩
        case o1 =>
          intro gy D wz hDi hdep hclo hW
          exact .inl ⟨rfl, rfl, .inl ⟨gy, wz, fun _ _ => rfl, by kernel_rfl, hW⟩⟩
        case o2 =>
          intro gy D wz hDi hdep hclo hW
          exact .inl ⟨rfl, rfl, .inl ⟨gy, wz, fun _ _ => rfl, x_loadS (cs := [.slice (W.p 0) (W.n 0) (W.c 0), .slice (W.p 1) (W.n 1) (W.c 1), .slice (W.p 2) (W.n 2) (W.c 2), .slice (W.p 3) (W.n 3) (W.c 3), .slice (W.p 4) (W.n 4) (W.c 4)]) rfl rfl Try.underlying55 rfl sz55 (HP.range hW 0 rfl rfl), hW⟩⟩
        case o3 =>
          intro gy D wz hDi hdep hclo hW
          exact .inl ⟨rfl, rfl, .inl ⟨gy, wz, fun _ _ => rfl, by kernel_rfl, hW⟩⟩
        case o4 =>
          intro gy D wz hDi hdep hclo hW
          exact .inl ⟨rfl, rfl, .inl ⟨gy, wz, fun _ _ => rfl, x_load rfl rfl Try.underlying3 rfl (HP.cell hW 5 rfl rfl), hW⟩⟩
        case o5 =>
          intro gy D wz hDi hdep hclo hW
          exact .inl ⟨rfl, rfl, .inl ⟨gy, wz, fun _ _ => rfl, by kernel_rfl, hW⟩⟩
        case o6 =>
          intro gy D wz hDi hdep hclo hW
          exact .inl ⟨rfl, rfl, .inl ⟨gy, wz, fun _ _ => rfl, by kernel_rfl, hW⟩⟩
        case o7 =>
          intro gy D wz hDi hdep hclo hW
          exact .inl ⟨rfl, rfl, .inl ⟨gy, wz, fun _ _ => rfl, x_idx (i) (i) rfl rfl rfl Try.underlying23 sz3 (by omega) (by omega) (by omega), hW⟩⟩
        case o8 =>
          intro gy D wz hDi hdep hclo hW
          exact .inl ⟨rfl, rfl, .inl ⟨gy, wz, fun _ _ => rfl, x_load rfl rfl Try.underlying3 rfl (HP.cell hW 2 rfl (irow_get (by omega) (by unfold upI; rw [if_pos rfl]))), hW⟩⟩
        case o9 =>
          intro gy D wz hDi hdep hclo hW
          exact .inl ⟨rfl, rfl, .inl ⟨gy, wz, fun _ _ => rfl, by kernel_rfl, hW⟩⟩
        case o10 =>
          intro gy D wz hDi hdep hclo hW
          exact .inl ⟨rfl, rfl, .inl ⟨gy, wz, fun _ _ => rfl, x_load rfl rfl Try.underlying3 rfl (HP.cell hW 5 rfl rfl), hW⟩⟩
        case o11 =>
          intro gy D wz hDi hdep hclo hW
          have hW2 := hW
          exact .inl ⟨rfl, rfl, .inr (.inr ⟨21, #[.agg #[.slice (W.p 0) (W.n 0) (W.c 0), .slice (W.p 1) (W.n 1) (W.c 1), .slice (W.p 2) (W.n 2) (W.c 2), .slice (W.p 3) (W.n 3) (W.c 3), .slice (W.p 4) (W.n 4) (W.c 4)], vI (qM q i), vI bv, vI (qN q i)], by kernel_rfl, (end_at (hWh.below (HP.below hW)) hmn (by omega) (by omega) (by omega) n1 n2 hpi hev).mono fun e w2 h => ⟨gy, fun _ _ => rfl, h.1, HP.call hW h.2⟩⟩)⟩
        case o12 =>
          intro gy D wz hDi hdep hclo hW
          exact .inl ⟨rfl, rfl, .inl ⟨gy, wz, fun _ _ => rfl, x_idx (i) (i) rfl rfl rfl Try.underlying23 sz3 (by omega) (by omega) (by omega), hW⟩⟩
        case o13 =>
          intro gy D wz hDi hdep hclo hW
          have hW9 := hW
          simp only [hDi, cond_false] at hW9
          have h4 := HP.set (off := i) (v := vI ev) hW9 3 rfl
          rw [irow_set] at h4
          exact .inl ⟨rfl, rfl, .inr (.inl ⟨_, x_store rfl rfl rfl sz3 rfl (HP.cell hW9 3 rfl (irow_get (by omega) rfl)) (HP.free hW9 3 rfl), rfl, h4⟩)⟩
      rintro gy D w66 hall hH67
      simp only [hall 13 (by kernel_rfl), cond_true, List.append_nil, List.nil_append, List.cons_append] at hH67
      clear hall
      refine WQ.sub (l' := [(3, vP b3 0), (4, vS g4 q.length q.length), (5, vS g5 q.length q.length), (7, vP b7 0), (10, vP b10 0), (12, vI (i : Int)), (13, vP b13 0), (53, vS g8 q.length q.length), (54, vI (q.length : Int)), (55, vI (k : Int)), (56, .bool true)]) ⟨rfl, rfl, rfl, rfl, rfl, rfl, rfl, rfl, rfl, rfl, rfl, trivial⟩ ?_
      refine WQ.then ?_
      refine hK65 _ _ _ ?_
      refine WC.confG (γ := Unit) [(3, vP b3 0), (4, vS g4 q.length q.length), (5, vS g5 q.length q.length), (7, vP b7 0), (10, vP b10 0), (12, vI (i : Int)), (13, vP b13 0), (53, vS g8 q.length q.length), (54, vI (q.length : Int)), (55, vI (k : Int)), (56, .bool true)] (fun gy => [vP b13 0, vI (qM q i), vS g5 q.length q.length, vI (i : Int), vP g5 i, vI ev, vP b10 mn, undef]) (fun gy D wz => HP Tr wt wz [.cel b7 #[.slice (W.p 0) (W.n 0) (W.c 0), .slice (W.p 1) (W.n 1) (W.c 1), .slice (W.p 2) (W.n 2) (W.c 2), .slice (W.p 3) (W.n 3) (W.c 3), .slice (W.p 4) (W.n 4) (W.c 4)] 55, .cel g8 (irow q.length z) 3, .cel g4 (irow q.length (upI B i bv)) 3, .cel g5 (irow q.length (upI E i ev)) 3, (bif D 7 then Ent.cel b10 (irow 4 (upI LM mn ev)) 71 else Ent.cel b10 (irow 4 LM) 71), .cel b13 #[vI (qM q i), vI (qT q i), vI (qN q i)] 30]) () (by kernel_rfl) ⟨rfl, rfl, rfl, rfl, rfl, rfl, rfl, rfl, rfl, rfl, rfl, trivial⟩ (by kernel_rfl) (by kernel_rfl) (by kernel_rfl) (fun _ => rfl) (by kernel_rfl) (HP.drew hH67) ?_ ?_
      · refine AllOk.cons ?o0 (AllOk.cons ?o1 (AllOk.cons ?o2 (AllOk.cons ?o3 (AllOk.cons ?o4 (AllOk.cons ?o5 (AllOk.cons ?o6 (AllOk.cons ?o7 (AllOk.nil _))))))))
        case o0 =>
          intro gy D wz hDi hdep hclo hW
          exact .inl ⟨rfl, rfl, .inl ⟨gy, wz, fun _ _ => rfl, by kernel_rfl, hW⟩⟩
        case o1 =>
          intro gy D wz hDi hdep hclo hW
          exact .inl ⟨rfl, rfl, .inl ⟨gy, wz, fun _ _ => rfl, x_load rfl rfl Try.underlying3 rfl (HP.cell hW 5 rfl rfl), hW⟩⟩
        case o2 =>
          intro gy D wz hDi hdep hclo hW
          exact .inl ⟨rfl, rfl, .inl ⟨gy, wz, fun _ _ => rfl, by kernel_rfl, hW⟩⟩
        case o3 =>
          intro gy D wz hDi hdep hclo hW
          exact .inl ⟨rfl, rfl, .inl ⟨gy, wz, fun _ _ => rfl, by kernel_rfl, hW⟩⟩
        case o4 =>
          intro gy D wz hDi hdep hclo hW
          exact .inl ⟨rfl, rfl, .inl ⟨gy, wz, fun _ _ => rfl, x_idx (i) (i) rfl rfl rfl Try.underlying23 sz3 (by omega) (by omega) (by omega), hW⟩⟩
        case o5 =>
          intro gy D wz hDi hdep hclo hW
          exact .inl ⟨rfl, rfl, .inl ⟨gy, wz, fun _ _ => rfl, x_load rfl rfl Try.underlying3 rfl (HP.cell hW 3 rfl (irow_get (by omega) (by unfold upI; rw [if_pos rfl]))), hW⟩⟩
        case o6 =>
          intro gy D wz hDi hdep hclo hW
          exact .inl ⟨rfl, rfl, .inl ⟨gy, wz, fun _ _ => rfl, x_idxArr (mn) (mn) rfl rfl rfl Try.underlying71 sz3 (by omega) (by omega) (by omega), hW⟩⟩
        case o7 =>
          intro gy D wz hDi hdep hclo hW
          have hW9 := hW
          simp only [hDi, cond_false] at hW9
          have h4 := HP.set (off := mn) (v := vI ev) hW9 4 rfl
          rw [irow_set] at h4
          exact .inl ⟨rfl, rfl, .inr (.inl ⟨_, x_store rfl rfl rfl sz3 rfl (HP.cell hW9 4 rfl (irow_get (by omega) rfl)) (HP.free hW9 4 rfl), rfl, h4⟩)⟩
      rintro gy D w68 hall hH69
      simp only [hall 7 (by kernel_rfl), cond_true, List.append_nil, List.nil_append, List.cons_append] at hH69
      clear hall
      refine WQ.sub (l' := [(3, vP b3 0), (4, vS g4 q.length q.length), (5, vS g5 q.length q.length), (7, vP b7 0), (10, vP b10 0), (12, vI (i : Int)), (13, vP b13 0), (53, vS g8 q.length q.length), (54, vI (q.length : Int)), (55, vI (k : Int)), (56, .bool true)]) ⟨rfl, rfl, rfl, rfl, rfl, rfl, rfl, rfl, rfl, rfl, rfl, trivial⟩ ?_
      refine WQ.inNormal ?_
      refine WQ.then ?_
      refine hK55 _ _ _ ?_
      refine WC.region ?_
      refine WL.pure (v := vI ((k + 1 : Nat) : Int)) 93 rfl (Nat.le_of_ble_eq_true rfl) rfl rfl (x_add (Z := ((k + 1 : Nat) : Int)) rfl rfl rfl (by omega) (by omega) (by omega)) ?_
      refine WL.pure (v := vI ((k + 1 : Nat) : Int)) 55 rfl (Nat.le_of_ble_eq_true rfl) rfl rfl (by kernel_rfl) ?_
      refine WL.nil ?_
      refine WQ.sub (l' := [(3, vP b3 0), (4, vS g4 q.length q.length), (5, vS g5 q.length q.length), (7, vP b7 0), (10, vP b10 0), (53, vS g8 q.length q.length), (54, vI (q.length : Int)), (55, vI ((k + 1 : Nat) : Int))]) ⟨rfl, rfl, rfl, rfl, rfl, rfl, rfl, rfl, trivial⟩ ?_
      refine WQ.then (hK50 _ _ _ (by omega) ⟨k + 1, upI B i bv, upI E i ev, upI LM mn ev, rfl, rfl, by omega, hSv.step hO hinj hz hSz (by omega) hi hmn (by omega) ⟨t1, t2⟩ hbv hev (by omega) heg, (HP.drop hH69 5)⟩)
    ·
      refine WL.pure (v := .bool false) 56 rfl (Nat.le_of_ble_eq_true rfl) rfl rfl (x_lss rfl rfl rfl (dF (hlt))) ?_
      refine WL.nil ?_
      refine WQ.then ?_
      refine hK53 _ _ _ ?_
      refine WC.seq fun K70 hK70 => ?_
      refine WC.no rfl ?_
      refine WC.exit ?_
      refine WQ.thenExit ?_
      refine WQ.thenExit ?_
      refine WQ.inExit ?_
      refine WQ.then ?_
      refine hK48 _ _ _ ?_
      refine WC.seq fun K71 hK71 => ?_
      refine WC.region ?_
      refine WL.pure (v := vS g4 q.length q.length) 94 rfl (Nat.le_of_ble_eq_true rfl) rfl rfl (by kernel_rfl) ?_
      refine WL.pure (v := vS g5 q.length q.length) 95 rfl (Nat.le_of_ble_eq_true rfl) rfl rfl (by kernel_rfl) ?_
      refine WL.pure (v := vS g4 q.length q.length) 4 rfl (Nat.le_of_ble_eq_true rfl) rfl rfl (by kernel_rfl) ?_
      refine WL.pure (v := vS g5 q.length q.length) 5 rfl (Nat.le_of_ble_eq_true rfl) rfl rfl (by kernel_rfl) ?_
      refine WL.pure (v := vI 0) 6 rfl (Nat.le_of_ble_eq_true rfl) rfl rfl (by kernel_rfl) ?_
      refine WL.nil ?_
      refine WQ.then ?_
      refine hK71 _ _ _ ?_
      refine WC.ret ?_
      refine WQ.ret3 4 5 6 rfl rfl rfl rfl ?_
      have hfin : ∀ i, i < n0 → 1 ≤ E i ∧ E i - qT q i ≤ wv := fun i hi => by
        have := hO.le
        obtain ⟨j, hj, e⟩ := hPz.surj (i := i) ⟨Nat.zero_le _, by omega⟩
        rw [hy i (by omega)] at e
        have g := hSv.done j (by omega) (by omega)
        rwa [show (z j).toNat = i by omega] at g
      have hX := HP.trans hHt hH52
      exact ⟨g4, g5, B, E, rfl, hfin, HP.drop (HP.drop (HP.drop (HP.drop hX 5) 2) 1) 0⟩
set_option maxRecDepth 20000 in
set_option maxHeartbeats 4000000 in
theorem Serve_any (p : Option Addr) (N cap : Nat) (o sp : Nat → Int) (pq : Option Addr) (cq : Nat) (q : List Rq) (m0 tk wv : Int) (n0 : Nat) (w : World) (hS : InS w p N o sp) (hI : InQ w pq q) (hl : okL o sp N = true) (hr : ∀ i, i < q.length → okR (qM q i) (qT q i) (qN q i) = true ∧ 0 < (posI (owl o sp N) (qM q i)).length) (hq : q.length ≤ 40) (hO : OwnOk (owl o sp N) q m0 tk wv n0) :
    Calls Try.prog 7 #[.slice p N cap, .slice pq q.length cq] w fun e w' => ∃ g4 g5 B E, e = .returned (.tuple #[vS g5 q.length q.length, vI 0]) ∧ (∀ i, i < n0 → 1 ≤ E i ∧ E i - qT q i ≤ wv) ∧ HP Tr w w' [.cel g4 (irow q.length B) 3, .cel g5 (irow q.length E) 3] := by
  refine calls_of Try.func7 rfl (m := 18) rfl [(0, .slice p N cap), (1, .slice pq q.length cq)] (Fr_enter [.slice p N cap, .slice pq q.length cq] 18 (Nat.le_of_ble_eq_true rfl)) ?_
  have hH1 : HP Tr w w [] := HP.refl w
  refine WC.seq fun K2 hK2 => ?_
  refine WC.region ?_
  refine WL.pure (v := .slice none 0 0) 4 rfl (Nat.le_of_ble_eq_true rfl) rfl rfl (by kernel_rfl) ?_
  refine WL.pure (v := vI 0) 5 rfl (Nat.le_of_ble_eq_true rfl) rfl rfl (by kernel_rfl) ?_
  refine WL.nil ?_
  refine WQ.then ?_
  refine hK2 _ _ _ ?_
  refine WC.seq fun K3 hK3 => ?_
  refine WC.region ?_
  refine WL.pure (v := .slice p N cap) 10 rfl (Nat.le_of_ble_eq_true rfl) rfl rfl (by kernel_rfl) ?_
  refine WL.pure (v := .slice pq q.length cq) 11 rfl (Nat.le_of_ble_eq_true rfl) rfl rfl (by kernel_rfl) ?_
  refine WL.call (f := 16) (args := #[.slice p N cap, .slice pq q.length cq]) 12 rfl (Nat.le_of_ble_eq_true rfl) rfl rfl (by kernel_rfl) ?_
  refine (serve_any p N cap o sp pq cq q m0 tk wv n0 _ (hS.below (HP.below hH1)) (hI.below (HP.below hH1)) hl hr hq hO).mono ?_
  rintro e w4 ⟨g4, g5, B, E, rfl, hfin, hb4⟩
  refine ⟨_, rfl, ?_⟩
  have hH4 : HP Tr w _ [.cel g4 (irow q.length B) 3, .cel g5 (irow q.length E) 3] := HP.trans hH1 hb4
  refine WL.pure (v := .tuple #[vS g4 q.length q.length, vS g5 q.length q.length, vI 0]) 9 rfl (Nat.le_of_ble_eq_true rfl) rfl rfl (by kernel_rfl) ?_
  refine WL.pure (v := vS g4 q.length q.length) 13 rfl (Nat.le_of_ble_eq_true rfl) rfl rfl (by kernel_rfl) ?_
  refine WL.pure (v := vS g5 q.length q.length) 14 rfl (Nat.le_of_ble_eq_true rfl) rfl rfl (by kernel_rfl) ?_
  refine WL.pure (v := vI 0) 15 rfl (Nat.le_of_ble_eq_true rfl) rfl rfl (by kernel_rfl) ?_
  refine WL.pure (v := vS g4 q.length q.length) 6 rfl (Nat.le_of_ble_eq_true rfl) rfl rfl (by kernel_rfl) ?_
  refine WL.pure (v := vS g5 q.length q.length) 7 rfl (Nat.le_of_ble_eq_true rfl) rfl rfl (by kernel_rfl) ?_
  refine WL.pure (v := vI 0) 8 rfl (Nat.le_of_ble_eq_true rfl) rfl rfl (by kernel_rfl) ?_
  refine WL.nil ?_
  refine WQ.then ?_
  refine hK3 _ _ _ ?_
  refine WC.sub (l' := [(0, .slice p N cap), (1, .slice pq q.length cq), (4, .slice none 0 0), (5, vI 0), (7, vS g5 q.length q.length), (8, vI 0)]) ⟨rfl, rfl, rfl, rfl, rfl, rfl, trivial⟩ ?_
  refine WC.seq fun K5 hK5 => ?_
  refine WC.region ?_
  refine WL.pure (v := vS g5 q.length q.length) 16 rfl (Nat.le_of_ble_eq_true rfl) rfl rfl (by kernel_rfl) ?_
  refine WL.pure (v := vI 0) 17 rfl (Nat.le_of_ble_eq_true rfl) rfl rfl (by kernel_rfl) ?_
  refine WL.pure (v := vS g5 q.length q.length) 4 rfl (Nat.le_of_ble_eq_true rfl) rfl rfl (by kernel_rfl) ?_
  refine WL.pure (v := vI 0) 5 rfl (Nat.le_of_ble_eq_true rfl) rfl rfl (by kernel_rfl) ?_
  refine WL.nil ?_
  refine WQ.then ?_
  refine hK5 _ _ _ ?_
  refine WC.ret ?_
  refine WQ.ret2 4 5 rfl rfl rfl ?_
  exact ⟨g4, g5, B, E, rfl, hfin, hH4⟩
end Bs
end Go.Proofs.Yteckbfebemofmaa
