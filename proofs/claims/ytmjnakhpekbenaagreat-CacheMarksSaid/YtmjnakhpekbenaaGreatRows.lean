/-
  No cell of these rows narrows 'for every input' (looked for: loops, veiled, ifaces, maps, wideKeys, modest, calm, conditions, laid).
  DERIVED. THE GIVEN ROWS OF THIS SEAT. 2 by the template 'for every input the law returns true; each argument reads behind the call as it read before'; 0 by the template 'total and deterministic' (their statements: YtmjnakhpekbenaaGreatTotals.lean).
  GIVEN WITH THE SEED: the statements are not yours to turn. If you find one false, say at which input.
  Laid BY PROGRAM, IN A SANDBOX (cutbox-rows.mjs): the forced cells as the released guide's own fill.sh prints them over the translation 87fc16d98f42c1a0… (all of the seat's roots in one cut). By AI agents, Wed Nov 11 2026. No macro, syntax, notation, axiom, sorry.
-/
import Derived.Test.YtmjnakhpekbenaaGreatChecked
import GoSem.Claim
import GoSem.ClaimJoined
import GoSem.ClaimMapViews
import Derived.JoinedTies
import Derived.KernelRfl
namespace Go.Proofs.YtmjnakhpekbenaaGreat
/- THE CELL 'sum', in the pinned program and in every row, IS THE sha256 OF THE DUMP (.gsa) THAT YtmjnakhpekbenaaGreatProg.lean LOADS. Nothing in Lean hashes anything: it is a label: what it is worth is what the hold of that sum in a sandbox is worth. -/
noncomputable def Tryz.pinned : Pinned := { name := "ytmjnakhpekbenaagreat", sum := "87fc16d98f42c1a0430cbd201d8da9d6eac667514b16221b6d9e29067a9b7a24", checked := Tryz.checked }
namespace Rows
def none {H : Type} : Left H := { results := [], args := [] }

/-- 'isochronlaw08.CacheMarks': WHATEVER THE INPUT: true; the input reads as it did. -/
def cacheMarksSpec : ChangeSpec := { name := "cacheMarks", fn := fun _ => fun
  | [d1, d2] => { results := [.lit (.bool true)], args := [d1, d2] }
  | _ => none }
def cacheMarksRow : OpenClaim := { program := "ytmjnakhpekbenaagreat", sum := "87fc16d98f42c1a0430cbd201d8da9d6eac667514b16221b6d9e29067a9b7a24", func := "isochron/isochronlaw08.CacheMarks", spec := "cacheMarks", inPlace := ["slices.overlaps[[2]int]"], unfollowed := true, recurses := true, apart := false }
def CacheMarksSaid : Prop := cacheMarksRow.holds Tryz.pinned (OpenSpec.ofChange cacheMarksSpec)

/-- ITS FALSE NEIGHBOUR: 'it returns false'. Refute it at one input. -/
def cacheMarksWrong : ChangeSpec := { name := "cacheMarks", fn := fun _ => fun
  | [d1, d2] => { results := [.lit (.bool false)], args := [d1, d2] }
  | _ => none }
def CacheMarksWrongFalsely : Prop := cacheMarksRow.holds Tryz.pinned (OpenSpec.ofChange cacheMarksWrong)

/-- 'isochronlaw08.CacheSound': WHATEVER THE INPUT: true; the input reads as it did. -/
def cacheSoundSpec : ChangeSpec := { name := "cacheSound", fn := fun _ => fun
  | [d1, d2, d3, d4] => { results := [.lit (.bool true)], args := [d1, d2, d3, d4] }
  | _ => none }
def cacheSoundRow : OpenClaim := { program := "ytmjnakhpekbenaagreat", sum := "87fc16d98f42c1a0430cbd201d8da9d6eac667514b16221b6d9e29067a9b7a24", func := "isochron/isochronlaw08.CacheSound", spec := "cacheSound", inPlace := ["slices.overlaps[[2]int]"], unfollowed := true, recurses := true, apart := false }
def CacheSoundSaid : Prop := cacheSoundRow.holds Tryz.pinned (OpenSpec.ofChange cacheSoundSpec)

/-- ITS FALSE NEIGHBOUR: 'it returns false'. Refute it at one input. -/
def cacheSoundWrong : ChangeSpec := { name := "cacheSound", fn := fun _ => fun
  | [d1, d2, d3, d4] => { results := [.lit (.bool false)], args := [d1, d2, d3, d4] }
  | _ => none }
def CacheSoundWrongFalsely : Prop := cacheSoundRow.holds Tryz.pinned (OpenSpec.ofChange cacheSoundWrong)

/- THE SECOND FORM. 'bulk': how many values and letters a reading holds, each counted each time it is reached (what is shared counts as often as it is met; a slice's spare places count too). A statement '..UptoSaid' is the law's where the arguments, and the package variables that the reading takes, are together of bulk at most 1048576: NARROWER than '..Said'. Prove '..Said' where nothing that the law and all that it calls make is longer than what came in: it says more and counts as full. Else prove '..UptoSaid'. A law counts once. -/
mutual
def uptoBulk {H : Type} : DataW H → Nat
  | .lit (.string bytes) => bytes.length + 1
  | .lit _ => 1
  | .nil => 1
  | .ptr d => uptoBulk d + 1
  | .slice elems spare => uptoBulkAll elems + uptoBulkAll spare + 1
  | .agg parts => uptoBulkAll parts + 1
  | .iface _ d => uptoBulk d + 1
  | .map entries => uptoBulkEntries entries + 1
  | .held _ => 1
def uptoBulkAll {H : Type} : List (DataW H) → Nat
  | [] => 0
  | d :: r => uptoBulk d + uptoBulkAll r
def uptoBulkEntries {H : Type} : List (Lit × DataW H) → Nat
  | [] => 0
  | x :: r => uptoBulkEntry x + uptoBulkEntries r
def uptoBulkEntry {H : Type} : Lit × DataW H → Nat
  | (.string bytes, d) => bytes.length + uptoBulk d + 1
  | (_, d) => uptoBulk d + 1
 end
def uptoSmall : (H : Type) → List (DataW H) → Bool := fun _ ds => decide (uptoBulkAll ds ≤ 1048576)
def OpenSpec.upto (s : _root_.Go.ChangeSpec) : _root_.Go.OpenSpec := { _root_.Go.OpenSpec.ofChange s with cond := some uptoSmall }

/-- 'isochronlaw08.CacheMarks', WHERE WHAT IT READS IS OF BULK AT MOST 1048576: true; the input reads as it did. -/
def cacheMarksUptoRow : OpenClaim := { program := "ytmjnakhpekbenaagreat", sum := "87fc16d98f42c1a0430cbd201d8da9d6eac667514b16221b6d9e29067a9b7a24", func := "isochron/isochronlaw08.CacheMarks", spec := "cacheMarks", inPlace := ["slices.overlaps[[2]int]"], unfollowed := true, recurses := true, apart := false, narrowed := true }
def CacheMarksUptoSaid : Prop := cacheMarksUptoRow.holds Tryz.pinned (OpenSpec.upto cacheMarksSpec)

/-- 'isochronlaw08.CacheSound', WHERE WHAT IT READS IS OF BULK AT MOST 1048576: true; the input reads as it did. -/
def cacheSoundUptoRow : OpenClaim := { program := "ytmjnakhpekbenaagreat", sum := "87fc16d98f42c1a0430cbd201d8da9d6eac667514b16221b6d9e29067a9b7a24", func := "isochron/isochronlaw08.CacheSound", spec := "cacheSound", inPlace := ["slices.overlaps[[2]int]"], unfollowed := true, recurses := true, apart := false, narrowed := true }
def CacheSoundUptoSaid : Prop := cacheSoundUptoRow.holds Tryz.pinned (OpenSpec.upto cacheSoundSpec)

end Rows
end Go.Proofs.YtmjnakhpekbenaaGreat
