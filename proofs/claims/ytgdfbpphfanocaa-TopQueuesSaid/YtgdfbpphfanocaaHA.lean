/- Insert and Delete of the library, on rows of one's own. -/
import Derived.Test.YtgdfbpphfanocaaFU
import Derived.Test.YtgdfbpphfanocaaHS
set_option linter.unusedVariables false
set_option linter.unusedSimpArgs false
namespace Go.Proofs.Ytgdfbpphfanocaa
open Go.RowKit
namespace Fw
section
variable {S : Nat → Prop} {w0 w w' : World} {H A B B' : List Ent}
/-- what a call is handed: entries that hold, apart from each other -/
def OwnB (w : World) (B : List Ent) : Prop := (∀ e, e ∈ B → e.holds w) ∧ B.Pairwise Apart
abbrev Out (B : List Ent) : Nat → Prop := fun b => ∀ e, e ∈ B → e.blk ≠ some b
theorem HP.startB (h : OwnB w B) : HP (Out B) w w B :=
  ⟨rfl, rfl, rfl, Nat.le_refl _, fun _ _ _ => rfl, h.1, fun x hx b hb _ hn => hn x hx hb, h.2⟩
theorem HP.ownB (h : HP S w0 w (A ++ B)) : OwnB w B := ⟨fun e he => h.hold e (List.mem_append_right _ he), (List.pairwise_append.1 h.apart).2.1⟩
/-- a call changes the last entries of the list -/
theorem HP.exch (h : HP S w0 w (A ++ B)) (h2 : HP (Out B) w w' B') : HP S w0 w' (A ++ B') := by
  have hp := List.pairwise_append.1 h.apart
  have old : ∀ b, b < w.heap.size → ∀ e', e' ∈ B' → e'.blk = some b → ∃ e, e ∈ B ∧ e.blk = some b := fun b hb e' he' hb' => by
    refine Classical.byContradiction fun hn => h2.fresh e' he' b hb' hb fun e he q => hn ⟨e, he, q⟩
  refine ⟨h2.os.trans h.os, h2.tape.trans h.tape, h2.output.trans h.output, Nat.le_trans h.size h2.size, ?_, ?_, ?_, ?_⟩
  · intro k hk hS
    refine (h2.keep k (Nat.lt_of_lt_of_le hk h.size) fun e he q => h.fresh e (List.mem_append_right _ he) k q hk hS).trans (h.keep k hk hS)
  · intro e he
    rcases List.mem_append.1 he with he | he
    · refine Ent.keep (h.hold e (List.mem_append_left _ he)) fun b hb => h2.keep b (Ent.lt (h.hold e (List.mem_append_left _ he)) hb) fun x hx q => hp.2.2 e he x hx b hb q
    · exact h2.hold e he
  · intro e he b hb hlt
    rcases List.mem_append.1 he with he | he
    · exact h.fresh e (List.mem_append_left _ he) b hb hlt
    · obtain ⟨x, hx, q⟩ := old b (Nat.lt_of_lt_of_le hlt h.size) e he hb
      exact h.fresh x (List.mem_append_right _ hx) b q hlt
  · refine List.pairwise_append.2 ⟨hp.1, h2.apart, fun x hx y hy b hb1 hb2 => ?_⟩
    by_cases hlt : b < w.heap.size
    · obtain ⟨z, hz, q⟩ := old b hlt y hy hb2
      exact hp.2.2 x hx z hz b hb1 q
    · exact hlt (Ent.lt (h.hold x (List.mem_append_left _ hx)) hb1)
theorem HP.flip (h : HP S w0 w (A ++ B)) : HP S w0 w (B ++ A) := h.perm List.perm_append_comm
theorem fold_set (off : Nat) : ∀ (vs : List Value) (k : Nat) (c : Array Value), off + k + vs.length ≤ c.size →
    ((vs.zipIdx k).foldl (fun (c : Array Value) (p : Value × Nat) => c.setIfInBounds (off + p.2) p.1) c).toList = c.toList.take (off + k) ++ vs ++ c.toList.drop (off + k + vs.length)
  | [], k, c, h => by simp
  | v :: r, k, c, h => by
    simp only [List.length_cons] at h ⊢
    rw [List.zipIdx_cons, List.foldl_cons, fold_set off r (k + 1) _ (by simp; omega)]
    have hi : off + k < c.toList.length := by simp; omega
    have e : (c.setIfInBounds (off + k) v).toList = c.toList.take (off + k) ++ v :: c.toList.drop (off + k + 1) := by
      rw [Array.toList_setIfInBounds, List.set_eq_take_append_cons_drop, if_pos hi]
    rw [e]
    have hl : (c.toList.take (off + k)).length = off + k := by simp; omega
    have e1 : (c.toList.take (off + k) ++ v :: c.toList.drop (off + k + 1)).take (off + (k + 1)) = c.toList.take (off + k) ++ [v] := by
      rw [show off + (k + 1) = (c.toList.take (off + k)).length + 1 by rw [hl]; omega, List.take_length_add_append]; rfl
    have e2 : (c.toList.take (off + k) ++ v :: c.toList.drop (off + k + 1)).drop (off + (k + 1) + r.length) = c.toList.drop (off + k + (r.length + 1)) := by
      rw [show off + (k + 1) + r.length = (c.toList.take (off + k)).length + (1 + r.length) by rw [hl]; omega, List.drop_length_add_append, Nat.add_comm 1 r.length, List.drop_succ_cons, List.drop_drop]
      congr 1; omega
    rw [e1, e2]; simp
theorem HP.setsTo (h : HP S w0 w H) (i : Nat) {b off : Nat} {c : Array Value} {T : TypeId} (vs : List Value) (hi : H[i]? = some (.cel b c T)) (hfit : off + vs.length ≤ c.size) :
    HP S w0 (w.setCells b off vs) (H.set i (.cel b (c.toList.take off ++ vs ++ c.toList.drop (off + vs.length)).toArray T)) := by
  have q := HP.setCells (off := off) i vs h hi
  have e : vs.zipIdx.foldl (fun (c : Array Value) (p : Value × Nat) => c.setIfInBounds (off + p.2) p.1) c = (c.toList.take off ++ vs ++ c.toList.drop (off + vs.length)).toArray := by
    apply Array.toList_inj.1
    have := fold_set off vs 0 c (by simpa using hfit)
    simpa using this
  rwa [e] at q
/-- numbers as cells -/
abbrev iL (xs : List Int) : List Value := xs.map (Value.int .i64)
theorem iL_one (xs : List Int) : ∀ v ∈ iL xs, v.oneCell' = true := fun v hv => by obtain ⟨x, _, rfl⟩ := List.mem_map.1 hv; rfl
end
end Fw
namespace Lb
open Fw
abbrev row (pv : Option Addr) (n cp : Nat) (xs : List Int) : Ent := .own (.slice pv n cp) n (iL xs) 3 1
theorem row_len {w : World} {pv : Option Addr} {n cp : Nat} {xs : List Int} (h : Ent.holds w (row pv n cp xs)) : xs.length = n := by
  have h2 : w.ownsRow 0 3 1 (.slice pv n cp) n (iL xs) := h
  simpa using h2.1
theorem row_cases {w : World} {pv : Option Addr} {n cp : Nat} {xs : List Int} (h : Ent.holds w (row pv n cp xs)) :
    (pv = none ∧ n = 0 ∧ cp = 0) ∨ ∃ g cur, pv = some ⟨g, 0, none⟩ ∧ w.heap[g]? = some (.cells cur 3 (0, 0)) ∧ n ≤ cp ∧ cp ≤ maxLen ∧ cur.size = cp ∧ cur.toList.take n = iL xs := by
  have h2 : w.ownsRow 0 3 1 (.slice pv n cp) n (iL xs) := h
  rcases h2.2 with ⟨h0, h1⟩ | ⟨g, cap, cur, hv, _, hg, hc, hm, hs, hx⟩
  · cases h0; exact .inl ⟨rfl, rfl, rfl⟩
  · cases hv; exact .inr ⟨g, cur, rfl, hg, hc, hm, by simpa using hs, by simpa using hx⟩
theorem cel_cell {w : World} {g j : Nat} {cur : Array Value} {v : Value} (hg : w.heap[g]? = some (.cells cur 3 (0, 0))) (h : cur[j]? = some v) : w.cell? ⟨g, j, none⟩ = some v := by
  rw [cell_of_row w g j cur 3 (0, 0) hg]; exact h
theorem take_get {l : List Value} {n j : Nat} {ys : List Value} {v : Value} (h : l.take n = ys) (hv : ys[j]? = some v) : l[j]? = some v := by
  rw [← h, List.getElem?_take] at hv
  split at hv
  · exact hv
  · cases hv
theorem row_of_cel {S : Nat → Prop} {w0 w : World} {g : Nat} {X : Array Value} {n cp : Nat} {xs : List Int} (h : HP S w0 w [.cel g X 3]) (hX : X.size = cp) (hn : n ≤ cp) (hm : cp ≤ maxLen) (hx : X.toList.take n = iL xs) : HP S w0 w [row (some ⟨g, 0, none⟩) n cp xs] := by
  have q := HP.celToOwn h 0 (k := n) (cap := cp) (s := 1) rfl hn hm (by omega)
  rw [Nat.mul_one, hx] at q; exact q
/-- the row with a number put in -/
def ins (xs : List Int) (i : Nat) (x : Int) : List Int := xs.take i ++ x :: xs.drop i
theorem iL_ins (xs : List Int) (i : Nat) (x : Int) : iL (ins xs i x) = (iL xs).take i ++ [.int .i64 x] ++ (iL xs).drop i := by simp [iL, ins]
theorem Insert_any (pv : Option Addr) (n cp nb i : Nat) (xs : List Int) (x : Int) (w : World) (hB : OwnB w [row pv n cp xs, .cel nb #[vI x] 3]) (hi : i ≤ n) (hn : n ≤ 1000) :
    Calls Try.prog 61 #[.slice pv n cp, vI (i : Int), vS nb 1 1] w fun e w' => ∃ pv' cp', e = .returned (.slice pv' (n + 1) cp') ∧ HP (fun b => (row pv n cp xs).blk ≠ some b) w w' [row pv' (n + 1) cp' (ins xs i x)] := by
  have hr := hB.1 _ (List.mem_cons_self)
  have hv : w.heap[nb]? = some (.cells #[vI x] 3 (0, 0)) := hB.1 (.cel nb #[vI x] 3) (by simp)
  have hap : Apart (row pv n cp xs) (.cel nb #[vI x] 3) := (List.pairwise_cons.1 hB.2).1 _ (by simp)
  have hlen := row_len hr
  have hvs : ∀ j v, ([vI x] : List Value)[j]? = some v → w.cell? ⟨nb, 0 + j, none⟩ = some v := fun j v h => by
    rw [Nat.zero_add]; exact cel_cell hv (by simpa using h)
  have h1v : ∀ v ∈ ([vI x] : List Value), v.oneCell' = true := by simp [Value.oneCell']
  rcases row_cases hr with ⟨rfl, rfl, rfl⟩ | ⟨g, cur, rfl, hg, hnc, hm, hs, hx⟩
  · obtain rfl : i = 0 := by omega
    obtain rfl : xs = [] := List.length_eq_zero_iff.1 hlen
    refine (Try.slices_Insert_int_end_grow none 0 0 nb 0 1 1 [] [vI x] w (by omega) (by omega) (by omega) (by omega) rfl rfl (fun _ => rfl) (fun a h => by cases h) hvs h1v).mono ?_
    rintro e w' ⟨rfl, rfl⟩
    refine ⟨_, _, rfl, ?_⟩
    have hgc := grownCap_ge w (0 + 1) 0 3
    have hgm := grownCap_le_maxLen w (0 + 1) 0 3 (by unfold maxLen; omega)
    generalize grownCap w (0 + 1) 0 3 = G at hgc hgm ⊢
    have q := HP.alloc (HP.drew (HP.refl (S := fun b => (row none 0 0 ([] : List Int)).blk ≠ some b) w)) (([] ++ [vI x]).toArray ++ Builtin.zeroCells (Value.int .i64 0).cells (G - (0 + 1))) 3
    refine row_of_cel q ?_ (by omega) hgm ?_
    · simp [Builtin.zeroCells, Value.cells]; omega
    · simp [ins, iL]
  · have hcs : ∀ j v, (iL xs)[j]? = some v → w.cell? ⟨g, j, none⟩ = some v := fun j v h => cel_cell hg (by have := take_get hx h; simpa using this)
    have hcs0 : ∀ j v, (iL xs)[j]? = some v → w.cell? ⟨g, 0 + j, none⟩ = some v := fun j v h => by rw [Nat.zero_add]; exact hcs j v h
    have hcl : (iL xs).length = n := by simpa using hlen
    have hne : nb ≠ g := fun e => hap g rfl (by rw [← e]; rfl)
    have hcel : HP (fun b => (row (some ⟨g, 0, none⟩) n cp xs).blk ≠ some b) w w [.cel g cur 3] := ⟨rfl, rfl, rfl, Nat.le_refl _, fun _ _ _ => rfl, fun e he => by simp at he; subst he; exact hg, fun e he b hb _ hq => by simp at he; subst he; exact hq hb, by simp⟩
    have hin : ∀ j, j < cp → (w.cell? ⟨g, j, none⟩).isSome = true := fun j hj => by rw [cell_of_row w g j cur 3 (0, 0) hg, Array.getElem?_eq_getElem (by omega)]; rfl
    have hfr : ∀ j, w.frozen? ⟨g, j, none⟩ = false := fun j => frozen_of_row w g j cur 3 hg
    by_cases hroom : n + 1 ≤ cp
    · by_cases hlt : i < n
      · refine (Try.slices_Insert_int_shift g 0 n cp i nb 0 1 1 (iL xs) [vI x] w hlt (by omega) hroom hm hne hcl rfl hcs0 (fun j hj => by rw [Nat.zero_add]; exact hin j (by omega)) (fun j _ => hfr _) hvs (iL_one xs) h1v 3 3 1 cp (by unfold World.shape?; rw [hv]; rfl) (by unfold World.shape?; rw [hg]; simp [hs]) (by omega) (frozen_of_row w nb 0 _ 3 hv) (frozen_of_row w nb 1 _ 3 hv)).mono ?_
        rintro e w' ⟨rfl, rfl⟩
        refine ⟨_, _, rfl, ?_⟩
        have hdl : ((iL xs).drop i).length = n - i := by rw [List.length_drop, hcl]
        have q1 := HP.setsTo (HP.drew hcel) 0 (off := 0 + (i + 1)) ((iL xs).drop i) rfl (by rw [hdl]; omega)
        have q2 := HP.setsTo q1 0 (off := 0 + i) [vI x] rfl (by simp; omega)
        refine row_of_cel q2 (by simp; omega) hroom hm ?_
        rw [iL_ins]
        simp only [Nat.zero_add, List.length_singleton]
        have hct : cur.toList.take (i + 1) = (iL xs).take (i + 1) := by rw [← hx, List.take_take, Nat.min_eq_left (by omega)]
        have hci : ((cur.toList.take (i + 1) ++ (iL xs).drop i ++ cur.toList.drop (i + 1 + ((iL xs).drop i).length))).take i = (iL xs).take i := by
          rw [hct, List.append_assoc, List.take_append_of_le_length (by simp; omega), List.take_take, Nat.min_eq_left (by omega)]
        have hcd : ((cur.toList.take (i + 1) ++ (iL xs).drop i ++ cur.toList.drop (i + 1 + ((iL xs).drop i).length))).drop (i + 1) = (iL xs).drop i ++ cur.toList.drop (i + 1 + ((iL xs).drop i).length) := by
          rw [List.append_assoc, List.drop_append_of_le_length (by simp; omega), List.drop_of_length_le (by simp; omega)]; rfl
        rw [hci, hcd, ← List.append_assoc, List.take_append_of_le_length (by simp; omega), List.take_of_length_le (by simp; omega)]
      · obtain rfl : i = n := by omega
        refine (Try.slices_Insert_int_end_room g 0 i cp nb 0 1 1 [vI x] w (by omega) hroom hm rfl (fun j hj => by rw [Nat.zero_add]; exact hin _ (by omega)) (fun j _ => hfr _) hvs h1v).mono ?_
        rintro e w' ⟨rfl, rfl⟩
        refine ⟨_, _, rfl, ?_⟩
        have q2 := HP.setsTo hcel 0 (off := 0 + i) [vI x] rfl (by simp; omega)
        refine row_of_cel q2 (by simp; omega) hroom hm ?_
        rw [iL_ins, List.take_of_length_le (l := iL xs) (by omega), List.drop_of_length_le (l := iL xs) (by omega)]
        simp only [Nat.zero_add, hx, List.append_nil]
        rw [List.take_append_of_le_length (by simp; omega), List.take_of_length_le (by simp; omega)]
    · have hgc := grownCap_ge w (n + 1) cp 3
      have hgm := grownCap_le_maxLen w (n + 1) cp 3 (by unfold maxLen; omega)
      by_cases hlt : i < n
      · refine (Try.slices_Insert_int_grow g 0 n cp i nb 0 1 1 (iL xs) [vI x] w hlt (by omega) hnc (by omega) (by omega) hcl rfl hcs0 hvs (iL_one xs) h1v).mono ?_
        rintro e w' ⟨rfl, rfl⟩
        refine ⟨_, _, rfl, ?_⟩
        have hdl : ((iL xs).drop i).length = n - i := by rw [List.length_drop, hcl]
        obtain ⟨X, hX⟩ : ∃ X : Array Value, X = ((iL xs).take i).toArray ++ Builtin.zeroCells (Value.int .i64 0).cells (n + 1 - i) ++ Builtin.zeroCells (Value.int .i64 0).cells (grownCap w (n + 1) cp 3 - (n + 1)) := ⟨_, rfl⟩
        rw [← hX]
        have hXs : X.size = grownCap w (n + 1) cp 3 := by rw [hX]; simp [Builtin.zeroCells, Value.cells]; omega
        have hXt : X.toList.take i = (iL xs).take i := by
          rw [hX]; simp only [Array.toList_append]
          rw [List.append_assoc, List.take_append_of_le_length (by simp; omega)]
          exact List.take_of_length_le (by simp; omega)
        have q0 := HP.drew (HP.alloc (HP.refl (S := fun b => (row (some ⟨g, 0, none⟩) n cp xs).blk ≠ some b) w) X 3)
        have q1 := HP.drew (HP.setsTo q0 0 (off := i) [vI x] rfl (by rw [hXs]; simp; omega))
        have q2 := HP.setsTo q1 0 (off := i + 1) ((iL xs).drop i) rfl (by rw [hdl]; simp; omega)
        refine row_of_cel q2 (by simp; omega) (by omega) hgm ?_
        rw [iL_ins, hXt]
        simp only [List.length_singleton]
        have hl1 : ((iL xs).take i ++ [vI x]).length = i + 1 := by simp; omega
        rw [List.take_append_of_le_length (l₁ := (iL xs).take i ++ [vI x]) (by omega), List.take_of_length_le (l := (iL xs).take i ++ [vI x]) (by omega), List.take_append_of_le_length (by rw [List.length_append, hl1, hdl]; omega), List.take_of_length_le (by rw [List.length_append, hl1, hdl]; omega)]
      · obtain rfl : i = n := by omega
        refine (Try.slices_Insert_int_end_grow (some ⟨g, 0, none⟩) i cp nb 0 1 1 (iL xs) [vI x] w (by omega) hnc (by omega) (by omega) hcl rfl (fun h => by cases h) (fun a ha j v hj => by cases ha; rw [show (⟨g, 0, none⟩ : Addr).add j = ⟨g, j, none⟩ by unfold Addr.add; split <;> simp_all]; exact hcs j v hj) hvs h1v).mono ?_
        rintro e w' ⟨rfl, rfl⟩
        refine ⟨_, _, rfl, ?_⟩
        have q := HP.alloc (HP.drew (HP.refl (S := fun b => (row (some ⟨g, 0, none⟩) i cp xs).blk ≠ some b) w)) ((iL xs ++ [vI x]).toArray ++ Builtin.zeroCells (Value.int .i64 0).cells (grownCap w (i + 1) cp 3 - (i + 1))) 3
        refine row_of_cel q ?_ (by omega) hgm ?_
        · simp [Builtin.zeroCells, Value.cells]; omega
        · rw [iL_ins, List.take_of_length_le (l := iL xs) (by omega), List.drop_of_length_le (by omega), List.append_nil]
          simp only [Array.toList_append]
          rw [List.take_append_of_le_length (by simp; omega), List.take_of_length_le (by simp; omega)]
/-- the row with the i-th taken out -/
def del (xs : List Int) (i : Nat) : List Int := xs.take i ++ xs.drop (i + 1)
theorem Delete_any (pv : Option Addr) (n cp i : Nat) (xs : List Int) (w : World) (hr : Ent.holds w (row pv n cp xs)) (hi : i < n) (hn : n ≤ 1000) :
    Calls Try.prog 63 #[.slice pv n cp, vI (i : Int), vI ((i + 1 : Nat) : Int)] w fun e w' => e = .returned (.slice pv (n - 1) cp) ∧ HP (fun b => (row pv n cp xs).blk ≠ some b) w w' [row pv (n - 1) cp (del xs i)] := by
  have hlen := row_len hr
  rcases row_cases hr with ⟨rfl, rfl, rfl⟩ | ⟨g, cur, rfl, hg, hnc, hm, hs, hx⟩
  · omega
  · have hcs : ∀ j v, (iL xs)[j]? = some v → w.cell? ⟨g, j, none⟩ = some v := fun j v h => cel_cell hg (by have := take_get hx h; simpa using this)
    have hH : Go.Sort.Holds (Value.int .i64) w g 0 xs.toArray := fun j hj => by
      rw [Nat.zero_add]
      refine ⟨hcs j _ ?_, frozen_of_row w g j cur 3 hg⟩
      have hj' : j < xs.length := by simpa using hj
      simp [iL, hj']
    have q := Try.slices_Delete_int g 0 cp i (i + 1) xs w hH (by omega) hm (by omega) (by omega)
    rw [hlen] at q
    refine q.mono ?_
    rintro e w' ⟨rfl, k, rfl⟩
    rw [show i + 1 - i = 1 by omega]
    refine ⟨rfl, ?_⟩
    have hcel : HP (fun b => (row (some ⟨g, 0, none⟩) n cp xs).blk ≠ some b) w (Go.Sort.ahead w k) [.cel g cur 3] := ⟨rfl, rfl, rfl, Nat.le_refl _, fun _ _ _ => rfl, fun e he => by simp at he; subst he; exact hg, fun e he b hb _ hq => by simp at he; subst he; exact hq hb, by simp⟩
    obtain ⟨X, hX⟩ : ∃ X : Array Value, X = Go.Sort.putCells (Value.int .i64) 0 (xs.take i ++ xs.drop (i + 1) ++ List.replicate 1 0).toArray cur := ⟨_, rfl⟩
    have hgl : g < w.heap.size := (Array.getElem?_eq_some_iff.1 hg).1
    have q2 : HP (fun b => (row (some ⟨g, 0, none⟩) n cp xs).blk ≠ some b) w (Go.Sort.putRow (Value.int .i64) (Go.Sort.ahead w k) g 0 (xs.take i ++ xs.drop (i + 1) ++ List.replicate 1 0).toArray) [.cel g X 3] := by
      refine hcel.change 0 rfl rfl rfl rfl (by simp) (fun j hj hne => ?_) ?_ (fun b hb => .inl hb)
      · unfold Go.Sort.putRow Go.Sort.mapBlock
        simp only [Array.getElem?_modify]
        rw [if_neg (fun e => hne (by rw [← e]; rfl))]
      · show (Go.Sort.putRow (Value.int .i64) (Go.Sort.ahead w k) g 0 _).heap[g]? = some (.cells X 3 (0, 0))
        unfold Go.Sort.putRow Go.Sort.mapBlock
        simp only [Array.getElem?_modify, if_pos]
        rw [show (Go.Sort.ahead w k).heap[g]? = some (.cells cur 3 (0, 0)) from hg, hX]; rfl
    have hXs : X.size = cp := by rw [hX]; simp [Go.Sort.putCells, hs]
    refine row_of_cel q2 hXs (by omega) hm ?_
    have hdl : (del xs i).length = n - 1 := by simp [del]; omega
    refine List.ext_getElem? fun j => ?_
    rw [List.getElem?_take]
    by_cases hj : j < n - 1
    · rw [if_pos hj, Array.getElem?_toList, hX]
      unfold Go.Sort.putCells
      rw [Array.getElem?_mapIdx, Array.getElem?_eq_getElem (by omega)]
      have hz : j < (xs.take i ++ xs.drop (i + 1) ++ List.replicate 1 (0 : Int)).toArray.size := by simp; omega
      simp only [Option.map_some]
      rw [if_pos ⟨Nat.zero_le _, by rw [Nat.zero_add]; exact hz⟩, Nat.sub_zero, getElem!_pos (xs.take i ++ xs.drop (i + 1) ++ List.replicate 1 (0 : Int)).toArray j hz]
      have hjd : j < (del xs i).length := by omega
      simp only [iL, List.getElem?_map, List.getElem?_eq_getElem hjd, Option.map_some]
      congr 2
      simp only [List.getElem_toArray]
      exact List.getElem_append_left hjd
    · rw [if_neg hj, List.getElem?_eq_none (by simp [hdl]; omega)]
end Lb
end Go.Proofs.Ytgdfbpphfanocaa
