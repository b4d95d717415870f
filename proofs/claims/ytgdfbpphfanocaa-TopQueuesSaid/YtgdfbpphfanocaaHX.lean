/- The queue played by a schedule, plainly. -/
import Derived.Test.YtgdfbpphfanocaaHV
set_option linter.unusedVariables false
set_option linter.unusedSimpArgs false
namespace Go.Proofs.Ytgdfbpphfanocaa
open Go.RowKit Fw
namespace Qp
open Lc (wd)
/-- the words of the puts that were done -/
def sent : List Bool → List Int → List Int
  | b :: B, x :: P => if b then x :: sent B P else sent B P
  | _, _ => []
theorem sent_append : ∀ (B : List Bool) (P : List Int) (b : Bool), B.length < P.length → sent (B ++ [b]) P = sent B P ++ (if b then [P.getD B.length 0] else [])
  | [], x :: P, b, _ => by cases b <;> simp [sent]
  | c :: B, x :: P, b, h => by
    have := sent_append B P b (by simpa using h)
    cases c <;> simp [sent, this]
  | _, [], _, h => by simp at h
theorem sent_mem : ∀ (B : List Bool) (P : List Int) (x : Int), x ∈ sent B P → x ∈ P
  | [], _, x, h => by simp [sent] at h
  | c :: B, [], x, h => by simp [sent] at h
  | c :: B, y :: P, x, h => by
    cases c
    · simp [sent] at h; exact List.mem_cons_of_mem _ (sent_mem B P x h)
    · simp [sent] at h
      rcases h with rfl | h
      · exact List.mem_cons_self
      · exact List.mem_cons_of_mem _ (sent_mem B P x h)
structure Inv (m : Nat) (P : List Int) (K : Int) (W : Nat) (C : Nat → Int) (h t p k : Nat) (wo tk : Int) (B : List Bool) (T : List Int) (tl : Int) : Prop where
  m1 : 1 ≤ m
  m2 : m ≤ 8
  hh : h = T.length % (m + 1)
  ht : t = (sent B P).length % (m + 1)
  le : T.length ≤ (sent B P).length
  rm : (sent B P).length ≤ T.length + m
  pre : T = (sent B P).take T.length
  cell : ∀ j, T.length ≤ j → j < (sent B P).length → C (j % (m + 1)) = (sent B P).getD j 0
  bl : B.length ≤ P.length
  pw : p ≠ 0 → B.length < P.length ∧ wo = P.getD B.length 0
  p3 : p ≤ 3
  pr : 2 ≤ p → (sent B P).length < T.length + m
  pc : p = 3 → C t = wo
  k3 : k ≤ 3
  kr : 2 ≤ k → T.length < (sent B P).length
  kc : k = 3 → tk = (sent B P).getD T.length 0
  t0 : 0 ≤ tl
  tls : (T.length : Int) + tl + (if k = 0 then 0 else 1) ≤ K
  wr : W ≤ 3 * B.length + (p - 1) ∨ B.length = P.length
theorem Inv.start {m : Nat} {P : List Int} {K : Int} (h1 : 1 ≤ m) (h2 : m ≤ 8) (hK : 0 ≤ K) : Inv m P K 0 (fun _ => 0) 0 0 0 0 0 0 [] [] K :=
  ⟨h1, h2, by simp, by simp [sent], by simp, by simp [sent], by simp, fun j _ h => by simp [sent] at h, by simp, fun h => absurd rfl h, by omega, fun h => by omega, fun h => by omega, by omega, fun h => by omega, fun h => by omega, hK, by simp, by simp⟩
theorem mod_full {a b m : Nat} (h1 : 1 ≤ m) (h2 : m ≤ 8) (h3 : b ≤ a) (h4 : a ≤ b + m) : (a % (m + 1) + 1) % (m + 1) = b % (m + 1) ↔ a = b + m := by
  have h5 : m = 1 ∨ m = 2 ∨ m = 3 ∨ m = 4 ∨ m = 5 ∨ m = 6 ∨ m = 7 ∨ m = 8 := by omega
  rcases h5 with rfl | rfl | rfl | rfl | rfl | rfl | rfl | rfl <;> omega
theorem mod_empty {a b m : Nat} (h1 : 1 ≤ m) (h2 : m ≤ 8) (h3 : b ≤ a) (h4 : a ≤ b + m) : b % (m + 1) = a % (m + 1) ↔ a = b := by
  have h5 : m = 1 ∨ m = 2 ∨ m = 3 ∨ m = 4 ∨ m = 5 ∨ m = 6 ∨ m = 7 ∨ m = 8 := by omega
  rcases h5 with rfl | rfl | rfl | rfl | rfl | rfl | rfl | rfl <;> omega
theorem mod_succ {a m : Nat} (h1 : 1 ≤ m) (h2 : m ≤ 8) : (a % (m + 1) + 1) % (m + 1) = (a + 1) % (m + 1) := by
  have h5 : m = 1 ∨ m = 2 ∨ m = 3 ∨ m = 4 ∨ m = 5 ∨ m = 6 ∨ m = 7 ∨ m = 8 := by omega
  rcases h5 with rfl | rfl | rfl | rfl | rfl | rfl | rfl | rfl <;> omega
section
variable {m : Nat} {P : List Int} {K : Int} {W : Nat} {C : Nat → Int} {h t p k : Nat} {wo tk : Int} {B : List Bool} {T : List Int} {tl : Int}
theorem Inv.hn (I : Inv m P K W C h t p k wo tk B T tl) : h < m + 1 ∧ t < m + 1 := by
  rw [I.hh, I.ht]; exact ⟨Nat.mod_lt _ (by omega), Nat.mod_lt _ (by omega)⟩
theorem Inv.wFull (I : Inv m P K W C h t 0 k wo tk B T tl) (hB : B.length < P.length) (hf : (t + 1) % (m + 1) = h) : Inv m P K (W + 1) C h t 0 k (P.getD B.length 0) tk (B ++ [false]) T tl := by
  have e : sent (B ++ [false]) P = sent B P := by rw [sent_append B P false hB]; simp
  have hw := I.wr
  exact ⟨I.m1, I.m2, I.hh, by rw [e]; exact I.ht, by rw [e]; exact I.le, by rw [e]; exact I.rm, by rw [e]; exact I.pre, by rw [e]; exact I.cell, by simp; omega, fun h => absurd rfl h, by omega, fun h => by omega, fun h => by omega, I.k3, by rw [e]; exact I.kr, by rw [e]; exact I.kc, I.t0, I.tls, by simp; omega⟩
theorem Inv.wRoom (I : Inv m P K W C h t 0 k wo tk B T tl) (hB : B.length < P.length) (hf : ¬ (t + 1) % (m + 1) = h) : Inv m P K (W + 1) C h t 2 k (P.getD B.length 0) tk B T tl := by
  have hw := I.wr
  have hne : ¬ (sent B P).length = T.length + m := fun q => hf (by rw [I.hh, I.ht]; exact (mod_full I.m1 I.m2 I.le I.rm).2 q)
  have := I.rm
  exact ⟨I.m1, I.m2, I.hh, I.ht, I.le, I.rm, I.pre, I.cell, I.bl, fun _ => ⟨hB, rfl⟩, by omega, fun _ => by omega, fun h => by omega, I.k3, I.kr, I.kc, I.t0, I.tls, by omega⟩
theorem Inv.wMove (I : Inv m P K W C h t 2 k wo tk B T tl) : Inv m P K (W + 1) (upI C t wo) h t 3 k wo tk B T tl := by
  have hw := I.wr
  have hr := I.pr (by omega)
  have hb := (I.pw (by omega)).1
  refine ⟨I.m1, I.m2, I.hh, I.ht, I.le, I.rm, I.pre, fun j h1 h2 => ?_, I.bl, fun _ => I.pw (by omega), by omega, fun _ => hr, fun _ => by simp [upI], I.k3, I.kr, I.kc, I.t0, I.tls, by omega⟩
  have hne : ¬ j % (m + 1) = t := fun q => by
    rw [I.ht] at q
    have := (mod_empty (a := (sent B P).length) (b := j) I.m1 I.m2 (by omega) (by omega)).1 q
    omega
  unfold upI
  rw [if_neg hne]
  exact I.cell j h1 h2
theorem Inv.wTurn (I : Inv m P K W C h t 3 k wo tk B T tl) {t2 : Nat} (hf : (t + 1) % (m + 1) = t2) : Inv m P K (W + 1) C h t2 0 k wo tk (B ++ [true]) T tl := by
  obtain ⟨hB, hwo⟩ := I.pw (by omega)
  have e : sent (B ++ [true]) P = sent B P ++ [wo] := by rw [sent_append B P true hB, hwo]; simp
  have hw := I.wr
  have hr := I.pr (by omega)
  have hle := I.le
  have hl : (sent (B ++ [true]) P).length = (sent B P).length + 1 := by rw [e]; simp
  refine ⟨I.m1, I.m2, I.hh, ?_, by omega, by omega, ?_, fun j h1 h2 => ?_, by simp; omega, fun h => absurd rfl h, by omega, fun h => by omega, fun h => by omega, I.k3, fun h => by have := I.kr h; omega, fun h => ?_, I.t0, I.tls, by simp; omega⟩
  · rw [hl, ← hf, I.ht]; exact mod_succ I.m1 I.m2
  · rw [e, List.take_append_of_le_length I.le]; exact I.pre
  · rw [e]
    by_cases hj : j < (sent B P).length
    · rw [I.cell j h1 hj]; simp [List.getD_eq_getElem?_getD, List.getElem?_append_left hj]
    · have hj2 : j = (sent B P).length := by omega
      subst hj2
      rw [← I.ht, I.pc rfl]
      simp [List.getD_eq_getElem?_getD]
  · rw [I.kc h, e]
    have := I.kr (by omega)
    simp [List.getD_eq_getElem?_getD, List.getElem?_append_left this]
theorem Inv.wIdle (I : Inv m P K W C h t 0 k wo tk B T tl) (hB : ¬ B.length < P.length) : Inv m P K (W + 1) C h t 0 k wo tk B T tl := by
  have := I.bl
  exact ⟨I.m1, I.m2, I.hh, I.ht, I.le, I.rm, I.pre, I.cell, I.bl, I.pw, I.p3, I.pr, I.pc, I.k3, I.kr, I.kc, I.t0, I.tls, .inr (by omega)⟩
theorem Inv.rEmpty (I : Inv m P K W C h t p 0 wo tk B T tl) (h0 : 0 < tl) : Inv m P K W C h t p 0 wo tk B T (tl - 1) := by
  have := I.tls
  exact ⟨I.m1, I.m2, I.hh, I.ht, I.le, I.rm, I.pre, I.cell, I.bl, I.pw, I.p3, I.pr, I.pc, I.k3, I.kr, I.kc, by omega, by simp at this ⊢; omega, I.wr⟩
theorem Inv.rNon (I : Inv m P K W C h t p 0 wo tk B T tl) (h0 : 0 < tl) (hne : ¬ h = t) : Inv m P K W C h t p 2 wo tk B T (tl - 1) := by
  have := I.tls
  have hl : ¬ (sent B P).length = T.length := fun q => hne (by rw [I.hh, I.ht, q])
  have := I.le
  exact ⟨I.m1, I.m2, I.hh, I.ht, I.le, I.rm, I.pre, I.cell, I.bl, I.pw, I.p3, I.pr, I.pc, by omega, fun _ => by omega, fun h => by omega, by omega, by simp at this ⊢; omega, I.wr⟩
theorem Inv.rMove (I : Inv m P K W C h t p 2 wo tk B T tl) : Inv m P K W C h t p 3 wo (C h) B T tl := by
  have hr := I.kr (by omega)
  exact ⟨I.m1, I.m2, I.hh, I.ht, I.le, I.rm, I.pre, I.cell, I.bl, I.pw, I.p3, I.pr, I.pc, by omega, fun _ => hr, fun _ => by rw [I.hh]; exact I.cell _ (Nat.le_refl _) hr, I.t0, I.tls, I.wr⟩
theorem Inv.rTurn (I : Inv m P K W C h t p 3 wo tk B T tl) {h2 : Nat} (hf : (h + 1) % (m + 1) = h2) : Inv m P K W C h2 t p 0 wo tk B (T ++ [tk]) tl := by
  have hr := I.kr (by omega)
  have hs := I.tls
  have hrm := I.rm
  have hpr := I.pr
  have hl : (T ++ [tk]).length = T.length + 1 := by simp
  refine ⟨I.m1, I.m2, ?_, I.ht, by omega, by omega, ?_, fun j h1 h2 => I.cell j (by omega) h2, I.bl, I.pw, I.p3, fun h => by have := I.pr h; omega, I.pc, by omega, fun h => by omega, fun h => by omega, I.t0, by simp at hs ⊢; omega, I.wr⟩
  · rw [hl, ← hf, I.hh]; exact mod_succ I.m1 I.m2
  · rw [hl, List.take_add_one, ← I.pre, I.kc rfl]
    simp [List.getD_eq_getElem?_getD, hr]
/-- what a play leaves -/
structure Good (m : Nat) (P : List Int) (K : Int) (W : Nat) (B : List Bool) (T : List Int) : Prop where
  bl : B.length ≤ P.length
  wr : W / 3 ≤ B.length ∨ P.length ≤ B.length
  tk : (T.length : Int) ≤ K
  le : T.length ≤ (sent B P).length
  rm : (sent B P).length ≤ T.length + m
  pre : ∀ j, j < T.length → T.getD j 0 = (sent B P).getD j 0
  wds : (∀ x ∈ P, wd x = true) → ∀ x ∈ T, wd x = true
theorem Inv.good (I : Inv m P K W C h t p k wo tk B T tl) : Good m P K W B T := by
  have h1 := I.wr
  have h2 := I.p3
  have h3 := I.tls
  have h4 := I.t0
  refine ⟨I.bl, by omega, by split at h3 <;> omega, I.le, I.rm, fun j hj => ?_, fun hP x hx => hP x (sent_mem B P x ?_)⟩
  · rw [I.pre]
    simp [List.getD_eq_getElem?_getD, List.getElem?_take, hj]
  · rw [I.pre] at hx; exact List.mem_of_mem_take hx
end
end Qp
end Go.Proofs.Ytgdfbpphfanocaa
