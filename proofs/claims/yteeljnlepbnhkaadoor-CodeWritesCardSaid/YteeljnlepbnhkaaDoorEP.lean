/- The search by a stack against brackets that are read by descent (plain). -/
import Derived.Test.YteeljnlepbnhkaaDoorEH
set_option linter.unusedVariables false
set_option linter.unusedSimpArgs false
namespace Go.Proofs.YteeljnlepbnhkaaDoor
namespace Ec
theorem opn_iff {x : Int} : opn x = true ↔ 29 ≤ x ∧ x ≤ 33 := by unfold opn; simp
theorem opn_no {x : Int} : opn x = false ↔ ¬ (29 ≤ x ∧ x ≤ 33) := by
  cases h : opn x
  · exact ⟨fun _ q => absurd (opn_iff.2 q) (by rw [h]; exact Bool.false_ne_true), fun _ => rfl⟩
  · exact ⟨fun q => absurd q (fun q => (by cases q)), fun q => absurd (opn_iff.1 h) q⟩
theorem two_iff {c : Nat → Int} {x : Nat} : two c x = true ↔ c x = 29 ∨ c x = 33 := by unfold two; simp
theorem last_split {l : List Nat} {x : Nat} (h : l.getLast? = some x) : l = l.dropLast ++ [x] := by
  rcases List.eq_nil_or_concat l with rfl | ⟨r, y, rfl⟩
  · cases h
  · simp at h; subst h; simp
theorem last_app {r : List Nat} {x : Nat} : (r ++ [x]).getLast? = some x := by simp
theorem top_app {r : List Nat} {x : Nat} : top (r ++ [x]) = (x : Int) := by unfold top; rw [last_app]
theorem upI_same (f : Nat → Int) (i : Nat) (v : Int) : upI f i v i = v := by simp [upI]
theorem upI_ne {f : Nat → Int} {i j : Nat} {v : Int} (h : j ≠ i) : upI f i v j = f j := by simp [upI, h]
/-- the ways of one step -/
theorem stp_inv {c : Nat → Int} {k : Nat} {s s' : Sh} (h : stp c k s = some s') :
    (opn (c k) = true ∧ s' = ⟨s.l ++ [k], upI s.o k (top s.l), upI s.e k (-1), upI s.d k (-1), upI s.t k (s.l.length : Int), max s.m (s.l.length + 1)⟩) ∨
    (opn (c k) = false ∧ c k ≠ 34 ∧ c k ≠ 35 ∧ s' = lay k s) ∨
    (c k = 34 ∧ ∃ r x, s.l = r ++ [x] ∧ two c x = true ∧ upI s.e k (-1) x < 0 ∧ s' = ⟨s.l, upI s.o k (top s.l), upI (upI s.e k (-1)) x (k : Int), upI s.d k (-1), upI (upI s.t k (s.l.length : Int)) k ((s.l.length : Int) - 1), s.m⟩) ∨
    (c k = 35 ∧ ∃ r x, s.l = r ++ [x] ∧ ¬ (c x = 33 ∧ upI s.e k (-1) x < 0) ∧ s' = ⟨r, upI s.o k (top s.l), upI s.e k (-1), upI (upI s.d k (-1)) x (k : Int), upI (upI s.t k (s.l.length : Int)) k ((s.l.length : Int) - 1), s.m⟩) := by
  unfold stp lay at h
  simp only [] at h
  split at h
  · next ho => exact .inl ⟨ho, (Option.some.inj h).symm⟩
  · next ho =>
    have ho' : opn (c k) = false := by simpa using ho
    split at h
    · next h45 =>
      split at h
      · cases h
      · next x hx =>
        have hl := last_split hx
        split at h
        · next h34 =>
          split at h
          · next hq =>
            simp only [Bool.and_eq_true, decide_eq_true_eq] at hq
            exact .inr (.inr (.inl ⟨by simpa using h34, _, x, hl, hq.1, hq.2, (Option.some.inj h).symm⟩))
          · cases h
        · next h34 =>
          split at h
          · cases h
          · next hq =>
            simp only [Bool.and_eq_true, decide_eq_true_eq, beq_iff_eq] at hq
            refine .inr (.inr (.inr ⟨?_, _, x, hl, hq, (Option.some.inj h).symm⟩))
            simp at h45 h34; omega
    · next h45 =>
      simp at h45
      exact .inr (.inl ⟨ho', h45.1, h45.2, (Option.some.inj h).symm⟩)
theorem shp_succ {c : Nat → Int} {k : Nat} {s' : Sh} (h : shp c (k + 1) = some s') : ∃ s, shp c k = some s ∧ stp c k s = some s' := by
  have h' : (shp c k).bind (stp c k) = some s' := h
  cases hs : shp c k with
  | none => rw [hs] at h'; cases h'
  | some s => rw [hs] at h'; exact ⟨s, rfl, h'⟩
theorem shp_back {c : Nat → Int} {k n : Nat} {s' : Sh} (h : shp c n = some s') (hk : k ≤ n) : ∃ s, shp c k = some s := by
  cases hs : shp c k with
  | some s => exact ⟨s, rfl⟩
  | none =>
    have := shp_none (n - k) hs
    rw [show k + (n - k) = n by omega, h] at this; cases this
def Eok (c : Nat → Int) (k x : Nat) (v : Int) : Prop := v = -1 ∨ ((x : Int) < v ∧ v < k ∧ c v.toNat = 34)
def Dok (c : Nat → Int) (k x : Nat) (l : List Nat) (v : Int) : Prop := (v = -1 ∧ (x ∈ l ∨ opn (c x) = false)) ∨ ((x : Int) < v ∧ v < k ∧ c v.toNat = 35 ∧ x ∉ l ∧ opn (c x) = true)
theorem Eok.up {c : Nat → Int} {k x : Nat} {v : Int} (h : Eok c k x v) : Eok c (k + 1) x v := h.imp id fun q => ⟨q.1, by have := q.2.1; omega, q.2.2⟩
theorem Dok.up {c : Nat → Int} {k x : Nat} {l l' : List Nat} {v : Int} (h : Dok c k x l v) (h1 : x ∈ l ↔ x ∈ l') : Dok c (k + 1) x l' v :=
  h.imp (fun q => ⟨q.1, q.2.imp h1.1 id⟩) fun q => ⟨q.1, by have := q.2.1; omega, q.2.2.1, fun r => q.2.2.2.1 (h1.2 r), q.2.2.2.2⟩
/-- what holds of a state -/
structure Inv (c : Nat → Int) (k : Nat) (s : Sh) : Prop where
  lt : ∀ x, x ∈ s.l → x < k
  op : ∀ x, x ∈ s.l → opn (c x) = true
  inc : s.l.Pairwise (· < ·)
  le : s.l.length ≤ s.m
  e : ∀ x, x < k → Eok c k x (s.e x)
  d : ∀ x, x < k → Dok c k x s.l (s.d x)
theorem inv_of {c : Nat → Int} : ∀ (k : Nat) (s : Sh), shp c k = some s → Inv c k s
  | 0, s, h => by
    simp only [shp, Option.some.injEq] at h; subst h
    exact ⟨fun x hx => by simp at hx, fun x hx => by simp at hx, List.Pairwise.nil, Nat.le_refl 0, fun x hx => by omega, fun x hx => by omega⟩
  | k + 1, s', h => by
    obtain ⟨s, hs, hst⟩ := shp_succ h
    have I := inv_of k s hs
    have hk : k ∉ s.l := fun q => by have := I.lt k q; omega
    have he : ∀ y, y < k + 1 → Eok c (k + 1) y (upI s.e k (-1) y) := fun y hy => by
      by_cases e : y = k
      · subst e; rw [upI_same]; exact .inl rfl
      · rw [upI_ne e]; exact (I.e y (by omega)).up
    rcases stp_inv hst with ⟨ho, rfl⟩ | ⟨ho, h4, h5, rfl⟩ | ⟨h4, r, x, hl, h2, hx, rfl⟩ | ⟨h5, r, x, hl, h2, rfl⟩
    · refine ⟨?_, ?_, ?_, ?_, he, ?_⟩
      · intro x hx
        rcases List.mem_append.1 hx with q | q
        · have := I.lt x q; omega
        · simp at q; omega
      · intro x hx
        rcases List.mem_append.1 hx with q | q
        · exact I.op x q
        · simp at q; subst q; exact ho
      · exact List.pairwise_append.2 ⟨I.inc, by simp, fun a ha b hb => by simp at hb; subst hb; exact I.lt a ha⟩
      · have := I.le; show (s.l ++ [k]).length ≤ max s.m (s.l.length + 1); simp; omega
      · intro x hx
        show Dok c (k + 1) x (s.l ++ [k]) (upI s.d k (-1) x)
        by_cases e : x = k
        · subst e; rw [upI_same]; exact .inl ⟨rfl, .inl (by simp)⟩
        · rw [upI_ne e]; exact (I.d x (by omega)).up (by simp [e])
    · refine ⟨fun x hx => by have := I.lt x hx; omega, I.op, I.inc, I.le, he, ?_⟩
      intro x hx
      show Dok c (k + 1) x s.l (upI s.d k (-1) x)
      by_cases e : x = k
      · subst e; rw [upI_same]; exact .inl ⟨rfl, .inr ho⟩
      · rw [upI_ne e]; exact (I.d x (by omega)).up Iff.rfl
    · have hxk := I.lt x (by rw [hl]; simp)
      refine ⟨fun y hy => by have := I.lt y hy; omega, I.op, I.inc, I.le, ?_, ?_⟩
      · intro y hy
        show Eok c (k + 1) y (upI (upI s.e k (-1)) x (k : Int) y)
        by_cases e1 : y = x
        · subst e1; rw [upI_same]; exact .inr ⟨by omega, by omega, by simpa using h4⟩
        · rw [upI_ne e1]; exact he y hy
      · intro y hy
        show Dok c (k + 1) y s.l (upI s.d k (-1) y)
        by_cases e : y = k
        · subst e; rw [upI_same]; exact .inl ⟨rfl, .inr (opn_no.2 (by omega))⟩
        · rw [upI_ne e]; exact (I.d y (by omega)).up Iff.rfl
    · have hxk := I.lt x (by rw [hl]; simp)
      have hinc := I.inc
      rw [hl] at hinc
      have hxr : x ∉ r := fun q => by have := (List.pairwise_append.1 hinc).2.2 x q x (by simp); omega
      refine ⟨fun y hy => by have := I.lt y (by rw [hl]; exact List.mem_append_left _ hy); omega, fun y hy => I.op y (by rw [hl]; exact List.mem_append_left _ hy), (List.pairwise_append.1 hinc).1, by have := I.le; rw [hl] at this; simp at this; show r.length ≤ s.m; omega, he, ?_⟩
      intro y hy
      show Dok c (k + 1) y r (upI (upI s.d k (-1)) x (k : Int) y)
      by_cases e1 : y = x
      · subst e1; rw [upI_same]; exact .inr ⟨by omega, by omega, by simpa using h5, hxr, I.op y (by rw [hl]; simp)⟩
      · rw [upI_ne e1]
        by_cases e : y = k
        · subst e; rw [upI_same]; exact .inl ⟨rfl, .inr (opn_no.2 (by omega))⟩
        · rw [upI_ne e]; exact (I.d y (by omega)).up (by rw [hl]; simp [e1])
/-- what a later state keeps of an earlier one -/
structure Frz (c : Nat → Int) (k j : Nat) (s s' : Sh) : Prop where
  o : ∀ x, x < k → s'.o x = s.o x ∧ s'.t x = s.t x
  out : ∀ x, x < k → x ∉ s.l → x ∉ s'.l ∧ s'.e x = s.e x ∧ s'.d x = s.d x
  ins : ∀ x, x ∈ s.l → (x ∈ s'.l ∧ s'.d x = s.d x) ∨ (x ∉ s'.l ∧ (k : Int) ≤ s'.d x)
  e : ∀ x, x < k → s'.e x = s.e x ∨ (s.e x < 0 ∧ (k : Int) ≤ s'.e x)
  m : s.m ≤ s'.m
theorem frz_step {c : Nat → Int} {k : Nat} {s s' : Sh} (I : Inv c k s) (h : stp c k s = some s') : Frz c k (k + 1) s s' := by
  rcases stp_inv h with ⟨ho, rfl⟩ | ⟨ho, h4, h5, rfl⟩ | ⟨h4, r, x, hl, h2, hx, rfl⟩ | ⟨h5, r, x, hl, h2, rfl⟩
  · refine ⟨fun x hx => ⟨upI_ne (by omega), upI_ne (by omega)⟩, fun x hx hn => ⟨?_, upI_ne (by omega), upI_ne (by omega)⟩, fun x hx => .inl ⟨List.mem_append_left _ hx, upI_ne (by have := I.lt x hx; omega)⟩, fun x hx => .inl (upI_ne (by omega)), Nat.le_max_left _ _⟩
    show x ∉ s.l ++ [k]
    simp [hn]; omega
  · exact ⟨fun x hx => ⟨upI_ne (by omega), upI_ne (by omega)⟩, fun x hx hn => ⟨hn, upI_ne (by omega), upI_ne (by omega)⟩, fun x hx => .inl ⟨hx, upI_ne (by have := I.lt x hx; omega)⟩, fun x hx => .inl (upI_ne (by omega)), Nat.le_refl _⟩
  · have hxl : x ∈ s.l := by rw [hl]; simp
    have hxk := I.lt x hxl
    refine ⟨fun y hy => ⟨upI_ne (by omega), ?_⟩, fun y hy hn => ⟨hn, ?_, upI_ne (by omega)⟩, fun y hy => .inl ⟨hy, upI_ne (by have := I.lt y hy; omega)⟩, fun y hy => ?_, Nat.le_refl _⟩
    · show upI (upI s.t k _) k _ y = s.t y
      rw [upI_ne (by omega), upI_ne (by omega)]
    · show upI (upI s.e k (-1)) x (k : Int) y = s.e y
      rw [upI_ne (fun q => hn (by rw [q]; exact hxl)), upI_ne (by omega)]
    · show upI (upI s.e k (-1)) x (k : Int) y = s.e y ∨ _
      by_cases e : y = x
      · subst e; rw [upI_ne (by omega)] at hx
        exact .inr ⟨hx, by show (k : Int) ≤ upI _ _ _ _; rw [upI_same]; omega⟩
      · rw [upI_ne e, upI_ne (by omega)]; exact .inl rfl
  · have hxl : x ∈ s.l := by rw [hl]; simp
    have hxk := I.lt x hxl
    have hinc := I.inc
    rw [hl] at hinc
    have hxr : x ∉ r := fun q => by have := (List.pairwise_append.1 hinc).2.2 x q x (by simp); omega
    refine ⟨fun y hy => ⟨upI_ne (by omega), ?_⟩, fun y hy hn => ⟨fun q => hn (by rw [hl]; exact List.mem_append_left _ q), upI_ne (by omega), ?_⟩, fun y hy => ?_, fun y hy => .inl (upI_ne (by omega)), Nat.le_refl _⟩
    · show upI (upI s.t k _) k _ y = s.t y
      rw [upI_ne (by omega), upI_ne (by omega)]
    · show upI (upI s.d k (-1)) x (k : Int) y = s.d y
      rw [upI_ne (fun q => hn (by rw [q]; exact hxl)), upI_ne (by omega)]
    · have hyk := I.lt y hy
      show (y ∈ r ∧ upI (upI s.d k (-1)) x (k : Int) y = s.d y) ∨ (y ∉ r ∧ (k : Int) ≤ upI (upI s.d k (-1)) x (k : Int) y)
      by_cases e : y = x
      · subst e; exact .inr ⟨hxr, by rw [upI_same]; omega⟩
      · refine .inl ⟨?_, by rw [upI_ne e, upI_ne (by omega)]⟩
        rw [hl] at hy
        rcases List.mem_append.1 hy with q | q
        · exact q
        · simp at q; exact absurd q e
theorem frz {c : Nat → Int} {k : Nat} {s : Sh} (hs : shp c k = some s) : ∀ (i : Nat) (s' : Sh), shp c (k + i) = some s' → Frz c k (k + i) s s'
  | 0, s', h => by
    have : s = s' := by have h2 : shp c k = some s' := h; rw [hs] at h2; exact Option.some.inj h2
    subst this
    exact ⟨fun x hx => ⟨rfl, rfl⟩, fun x hx hn => ⟨hn, rfl, rfl⟩, fun x hx => .inl ⟨hx, rfl⟩, fun x hx => .inl rfl, Nat.le_refl _⟩
  | i + 1, s', h => by
    obtain ⟨s1, h1, h2⟩ := shp_succ (k := k + i) h
    have F := frz hs i s1 h1
    have G := frz_step (inv_of _ _ h1) h2
    have I := inv_of _ _ hs
    refine ⟨fun x hx => ?_, fun x hx hn => ?_, fun x hx => ?_, fun x hx => ?_, Nat.le_trans F.m G.m⟩
    · have a := F.o x hx; have b := G.o x (by omega); exact ⟨b.1.trans a.1, b.2.trans a.2⟩
    · have a := F.out x hx hn; have b := G.out x (by omega) a.1; exact ⟨b.1, b.2.1.trans a.2.1, b.2.2.trans a.2.2⟩
    · have hxk := I.lt x hx
      rcases F.ins x hx with ⟨a1, a2⟩ | ⟨a1, a2⟩
      · rcases G.ins x a1 with ⟨b1, b2⟩ | ⟨b1, b2⟩
        · exact .inl ⟨b1, b2.trans a2⟩
        · exact .inr ⟨b1, by omega⟩
      · have b := G.out x (by omega) a1
        exact .inr ⟨b.1, by rw [b.2.2]; exact a2⟩
    · rcases F.e x hx with a | ⟨a1, a2⟩
      · rcases G.e x (by omega) with b | ⟨b1, b2⟩
        · exact .inl (b.trans a)
        · exact .inr ⟨by rw [← a]; exact b1, by omega⟩
      · rcases G.e x (by omega) with b | ⟨b1, b2⟩
        · exact .inr ⟨a1, by rw [b]; exact a2⟩
        · omega
theorem frz_at {c : Nat → Int} {k n : Nat} {s s' : Sh} (hs : shp c k = some s) (hn : shp c n = some s') (hk : k ≤ n) : Frz c k n s s' := by
  have := frz hs (n - k) s' (by rw [show k + (n - k) = n by omega]; exact hn)
  rwa [show k + (n - k) = n by omega] at this

/-! Parts and brackets, by what the search does over them. -/
def ParS (c : Nat → Int) (k j d : Nat) : Prop := ∀ s, shp c k = some s → ∃ s', shp c j = some s' ∧ s'.l = s.l ∧ s'.m = max s.m (s.l.length + d) ∧ ∀ x, x < k → s'.e x = s.e x ∧ s'.d x = s.d x
def BraS (c : Nat → Int) (k : Nat) (a : Int) (e d : Nat) : Prop := ∀ s, shp c k = some s → ∃ s', shp c (e + 1) = some s' ∧ s'.l = s.l ∧ s'.m = max s.m (s.l.length + 1 + d) ∧ s'.e k = a ∧ s'.d k = (e : Int) ∧ ∀ x, x < k → s'.e x = s.e x ∧ s'.d x = s.d x
/-- no code goes on so -/
def Fail (c : Nat → Int) (n k : Nat) : Prop := ∀ s, shp c k = some s → ∀ s', shp c n = some s' → s'.l ≠ []
theorem ParS_nil (c : Nat → Int) (k : Nat) : ParS c k k 0 := fun s hs => ⟨s, hs, rfl, by have := (inv_of k s hs).le; omega, fun x _ => ⟨rfl, rfl⟩⟩
theorem ParS_other {c : Nat → Int} {k j d : Nat} (h : ParS c k j d) (hk : k ≤ j) (ho : opn (c j) = false) (h4 : c j ≠ 34) (h5 : c j ≠ 35) : ParS c k (j + 1) d := fun s hs => by
  obtain ⟨s', h1, h2, h3, h6⟩ := h s hs
  have hst : stp c j s' = some (lay j s') := by
    unfold stp; simp only []
    rw [if_neg (by rw [ho]; exact Bool.false_ne_true), show (c j == 34) = false by simpa using h4, show (c j == 35) = false by simpa using h5]; rfl
  exact ⟨lay j s', shp_step h1 hst, h2, h3, fun x hx => ⟨(upI_ne (by omega)).trans (h6 x hx).1, (upI_ne (by omega)).trans (h6 x hx).2⟩⟩
theorem ParS_bra {c : Nat → Int} {k j d e d' : Nat} {a : Int} (h : ParS c k j d) (hk : k ≤ j) (hb : BraS c j a e d') : ParS c k (e + 1) (max d (d' + 1)) := fun s hs => by
  obtain ⟨s', h1, h2, h3, h6⟩ := h s hs
  obtain ⟨s2, g1, g2, g3, _, _, g6⟩ := hb s' h1
  exact ⟨s2, g1, g2.trans h2, by rw [g3, h3, h2]; omega, fun x hx => ⟨(g6 x (by omega)).1.trans (h6 x hx).1, (g6 x (by omega)).2.trans (h6 x hx).2⟩⟩
/-- the state behind an opening -/
def oped (k : Nat) (s : Sh) : Sh := ⟨s.l ++ [k], upI s.o k (top s.l), upI s.e k (-1), upI s.d k (-1), upI s.t k (s.l.length : Int), max s.m (s.l.length + 1)⟩
theorem shp_open {c : Nat → Int} {k : Nat} {s : Sh} (hs : shp c k = some s) (ho : opn (c k) = true) : shp c (k + 1) = some (oped k s) := shp_step hs (by unfold stp; simp only []; rw [if_pos ho]; rfl)
theorem BraS_plain {c : Nat → Int} {k e d : Nat} (ho : opn (c k) = true) (hp : ParS c (k + 1) e d) (hk : k < e) (h5 : c e = 35) (h3 : c k ≠ 33) : BraS c k (-1) e d := fun s hs => by
  obtain ⟨s', h1, h2, h4, h6⟩ := hp _ (shp_open hs ho)
  have e1 : s'.e k = -1 := (h6 k (by omega)).1.trans (upI_same _ _ _)
  have hl : s'.l = s.l ++ [k] := h2
  have q := stp_end_ok (c := c) (k := e) (s := s') (x := k) (by rw [h5]; rfl) h5 (by rw [hl]; exact last_app) (fun q => h3 q.1)
  refine ⟨_, shp_step h1 q, by show s'.l.dropLast = s.l; rw [hl]; simp, ?_, ?_, upI_same _ _ _, fun x hx => ⟨?_, ?_⟩⟩
  · show s'.m = _
    rw [h4]; simp only [oped]; simp <;> omega
  · show upI s'.e e (-1) k = -1
    rw [upI_ne (by omega), e1]
  · show upI s'.e e (-1) x = s.e x
    rw [upI_ne (by omega), (h6 x (by omega)).1]; exact upI_ne (by omega)
  · show upI (upI s'.d e (-1)) k (e : Int) x = s.d x
    rw [upI_ne (by omega), upI_ne (by omega), (h6 x (by omega)).2]; exact upI_ne (by omega)
/-- the state behind an else -/
theorem shp_else {c : Nat → Int} {k a d1 : Nat} {s : Sh} (hs : shp c k = some s) (h2 : two c k = true) (hp : ParS c (k + 1) a d1) (hk : k < a) (h4 : c a = 34) :
    ∃ s', shp c (a + 1) = some s' ∧ s'.l = s.l ++ [k] ∧ s'.m = max s.m (s.l.length + 1 + d1) ∧ s'.e k = (a : Int) ∧ ∀ x, x < k → s'.e x = s.e x ∧ s'.d x = s.d x := by
  have ho : opn (c k) = true := by rw [opn_iff]; rcases two_iff.1 h2 with q | q <;> omega
  obtain ⟨s', h1, hl, hm, h6⟩ := hp _ (shp_open hs ho)
  have e1 : s'.e k = -1 := (h6 k (by omega)).1.trans (upI_same _ _ _)
  have hl' : s'.l = s.l ++ [k] := hl
  have q := stp_else_ok (c := c) (k := a) (s := s') (x := k) (by rw [h4]; rfl) h4 (by rw [hl']; exact last_app) h2 (by show upI s'.e a (-1) k < 0; rw [upI_ne (by omega), e1]; decide)
  refine ⟨_, shp_step h1 q, hl', ?_, upI_same _ _ _, fun x hx => ⟨?_, ?_⟩⟩
  · show s'.m = _
    rw [hm]; simp only [oped]; simp <;> omega
  · show upI (upI s'.e a (-1)) k (a : Int) x = s.e x
    rw [upI_ne (by omega), upI_ne (by omega), (h6 x (by omega)).1]; exact upI_ne (by omega)
  · show upI s'.d a (-1) x = s.d x
    rw [upI_ne (by omega), (h6 x (by omega)).2]; exact upI_ne (by omega)
theorem BraS_alt {c : Nat → Int} {k a e d1 d2 : Nat} (h2 : two c k = true) (hp : ParS c (k + 1) a d1) (hk : k < a) (h4 : c a = 34) (hq : ParS c (a + 1) e d2) (ha : a < e) (h5 : c e = 35) : BraS c k (a : Int) e (max d1 d2) := fun s hs => by
  obtain ⟨s1, h1, hl, hm, he, hf⟩ := shp_else hs h2 hp hk h4
  obtain ⟨s', g1, gl, gm, g6⟩ := hq s1 h1
  have hl' : s'.l = s.l ++ [k] := gl.trans hl
  have e1 : s'.e k = (a : Int) := (g6 k (by omega)).1.trans he
  have q := stp_end_ok (c := c) (k := e) (s := s') (x := k) (by rw [h5]; rfl) h5 (by rw [hl']; exact last_app) (fun q => by have q2 : upI s'.e e (-1) k < 0 := q.2; rw [upI_ne (by omega), e1] at q2; omega)
  refine ⟨_, shp_step g1 q, by show s'.l.dropLast = s.l; rw [hl']; simp, ?_, ?_, upI_same _ _ _, fun x hx => ⟨?_, ?_⟩⟩
  · show s'.m = _
    rw [gm, hm, hl]; simp <;> omega
  · show upI s'.e e (-1) k = a
    rw [upI_ne (by omega), e1]
  · show upI s'.e e (-1) x = s.e x
    rw [upI_ne (by omega), (g6 x (by omega)).1, (hf x hx).1]
  · show upI (upI s'.d e (-1)) k (e : Int) x = s.d x
    rw [upI_ne (by omega), upI_ne (by omega), (g6 x (by omega)).2, (hf x hx).2]
theorem Fail_par {c : Nat → Int} {n k j d : Nat} (h : ParS c k j d) (hf : Fail c n j) : Fail c n k := fun s hs s' hs' => by
  obtain ⟨s1, h1, _⟩ := h s hs
  exact hf s1 h1 s' hs'
theorem Fail_open {c : Nat → Int} {n k : Nat} (ho : opn (c k) = true) (hf : Fail c n (k + 1)) : Fail c n k := fun s hs s' hs' => hf _ (shp_open hs ho) s' hs'
theorem Fail_end {c : Nat → Int} {n k d : Nat} (ho : opn (c k) = true) (hp : ParS c (k + 1) n d) : Fail c n k := fun s hs s' hs' => by
  obtain ⟨s1, h1, hl, _⟩ := hp _ (shp_open hs ho)
  rw [h1] at hs'; cases hs'
  rw [hl]; simp [oped]
theorem none_fail {c : Nat → Int} {n j : Nat} {s s' : Sh} (hs : shp c j = some s) (hst : stp c j s = none) (hj : j < n) (hs' : shp c n = some s') : False := by
  obtain ⟨s1, h1⟩ := shp_back hs' (show j + 1 ≤ n by omega)
  obtain ⟨s2, h2, h3⟩ := shp_succ h1
  rw [hs] at h2; cases h2
  rw [hst] at h3; cases h3
theorem Fail_two {c : Nat → Int} {n k a d : Nat} (ho : opn (c k) = true) (hp : ParS c (k + 1) a d) (h4 : c a = 34) (ha : a < n) (h2 : two c k = false) : Fail c n k := fun s hs s' hs' => by
  obtain ⟨s1, h1, hl, _⟩ := hp _ (shp_open hs ho)
  exact (none_fail h1 (stp_else_two (by rw [h4]; rfl) h4 (show s1.l.getLast? = some k by rw [hl]; exact last_app) h2) ha hs').elim
theorem Fail_alt {c : Nat → Int} {n k a d1 : Nat} (h2 : two c k = true) (hp : ParS c (k + 1) a d1) (hk : k < a) (h4 : c a = 34) (hf : Fail c n (a + 1)) : Fail c n k := fun s hs s' hs' => by
  obtain ⟨s1, h1, _⟩ := shp_else hs h2 hp hk h4
  exact hf s1 h1 s' hs'
theorem Fail_alt_end {c : Nat → Int} {n k a d1 d2 : Nat} (h2 : two c k = true) (hp : ParS c (k + 1) a d1) (hk : k < a) (h4 : c a = 34) (hq : ParS c (a + 1) n d2) : Fail c n k := fun s hs s' hs' => by
  obtain ⟨s1, h1, hl, _⟩ := shp_else hs h2 hp hk h4
  obtain ⟨s2, g1, gl, _⟩ := hq s1 h1
  rw [g1] at hs'; cases hs'
  rw [gl, hl]; simp
theorem Fail_alt_else {c : Nat → Int} {n k a e d1 d2 : Nat} (h2 : two c k = true) (hp : ParS c (k + 1) a d1) (hk : k < a) (h4 : c a = 34) (hq : ParS c (a + 1) e d2) (ha : a < e) (h5 : c e = 34) (he : e < n) : Fail c n k := fun s hs s' hs' => by
  obtain ⟨s1, h1, hl, hm, he1, hf⟩ := shp_else hs h2 hp hk h4
  obtain ⟨s2, g1, gl, gm, g6⟩ := hq s1 h1
  exact (none_fail g1 (stp_else_has (by rw [h5]; rfl) h5 (show s2.l.getLast? = some k by rw [gl, hl]; exact last_app) (by
    show ¬ upI s2.e e (-1) k < 0
    rw [upI_ne (by omega), (g6 k (by omega)).1, he1]; omega)) he hs').elim
theorem Fail_try {c : Nat → Int} {n k e d : Nat} (ho : opn (c k) = true) (hp : ParS c (k + 1) e d) (hk : k < e) (h5 : c e = 35) (he : e < n) (h3 : c k = 33) : Fail c n k := fun s hs s' hs' => by
  obtain ⟨s1, h1, hl, hm, h6⟩ := hp _ (shp_open hs ho)
  exact (none_fail h1 (stp_end_try (by rw [h5]; rfl) h5 (show s1.l.getLast? = some k by rw [hl]; exact last_app) h3 (by
    show upI s1.e e (-1) k < 0
    rw [upI_ne (by omega), (h6 k (by omega)).1]
    show upI s.e k (-1) k < 0
    rw [upI_same]; decide)) he hs').elim
/-- what parts answers -/
def PR (c : Nat → Int) (n at' : Nat) (nx : Nat) (d : Int) : Prop := (d = -1 ∧ nx = 0 ∧ Fail c n at') ∨ (0 ≤ d ∧ d + at' ≤ nx ∧ nx ≤ n ∧ (nx < n → c nx = 34 ∨ c nx = 35) ∧ ParS c at' nx d.toNat)
/-- what bracket answers -/
def BR (c : Nat → Int) (n k : Nat) (a : Int) (e : Nat) (d : Int) : Prop := (a = 0 ∧ e = 0 ∧ d = -1 ∧ Fail c n k) ∨ (0 ≤ d ∧ d + k < e ∧ e < n ∧ BraS c k a e d.toNat)
end Ec
end Go.Proofs.YteeljnlepbnhkaaDoor
