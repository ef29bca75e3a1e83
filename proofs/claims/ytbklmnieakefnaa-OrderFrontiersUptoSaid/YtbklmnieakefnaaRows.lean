/-
  No cell of these rows narrows 'for every input' (looked for: loops, veiled, ifaces, maps, wideKeys, modest, calm, conditions, laid).
  DERIVED. THE GIVEN ROWS OF THIS SEAT. 6 by the template 'for every input the law returns true; each argument reads behind the call as it read before'; 0 by the template 'total and deterministic' (their statements: YtbklmnieakefnaaTotals.lean).
  GIVEN WITH THE SEED: the statements are not yours to turn. If you find one false, say at which input.
  Laid BY PROGRAM, IN A SANDBOX (cutbox-rows.mjs): the forced cells as the released guide's own fill.sh prints them over the translation 38cf9ef4db4f26f5… (all of the seat's roots in one cut). By AI agents, Wed Nov 11 2026. No macro, syntax, notation, axiom, sorry.
-/
import Derived.Test.YtbklmnieakefnaaChecked
import GoSem.Claim
import GoSem.ClaimJoined
import GoSem.ClaimMapViews
import Derived.JoinedTies
import Derived.KernelRfl
namespace Go.Proofs.Ytbklmnieakefnaa
/- THE CELL 'sum', in the pinned program and in every row, IS THE sha256 OF THE DUMP (.gsa) THAT YtbklmnieakefnaaProg.lean LOADS. Nothing in Lean hashes anything: it is a label: what it is worth is what the hold of that sum in a sandbox is worth. -/
noncomputable def Try.pinned : Pinned := { name := "ytbklmnieakefnaa", sum := "38cf9ef4db4f26f52317300cb244c8ff0a335828493c877381cf2b5052a5d9c7", checked := Try.checked }
namespace Rows
def none {H : Type} : Left H := { results := [], args := [] }

/-- 'cruciblelaw17.OrderWalks': WHATEVER THE INPUT: true; the input reads as it did. -/
def orderWalksSpec : ChangeSpec := { name := "orderWalks", fn := fun _ => fun
  | [d] => { results := [.lit (.bool true)], args := [d] }
  | _ => none }
def orderWalksRow : OpenClaim := { program := "ytbklmnieakefnaa", sum := "38cf9ef4db4f26f52317300cb244c8ff0a335828493c877381cf2b5052a5d9c7", func := "crucible/cruciblelaw17.OrderWalks", spec := "orderWalks", unfollowed := true, recurses := true, apart := false }
def OrderWalksSaid : Prop := orderWalksRow.holds Try.pinned (OpenSpec.ofChange orderWalksSpec)

/-- ITS FALSE NEIGHBOUR: 'it returns false'. Refute it at one input. -/
def orderWalksWrong : ChangeSpec := { name := "orderWalks", fn := fun _ => fun
  | [d] => { results := [.lit (.bool false)], args := [d] }
  | _ => none }
def OrderWalksWrongFalsely : Prop := orderWalksRow.holds Try.pinned (OpenSpec.ofChange orderWalksWrong)

/-- 'cruciblelaw17.OrderDoms': WHATEVER THE INPUT: true; the input reads as it did. -/
def orderDomsSpec : ChangeSpec := { name := "orderDoms", fn := fun _ => fun
  | [d] => { results := [.lit (.bool true)], args := [d] }
  | _ => none }
def orderDomsRow : OpenClaim := { program := "ytbklmnieakefnaa", sum := "38cf9ef4db4f26f52317300cb244c8ff0a335828493c877381cf2b5052a5d9c7", func := "crucible/cruciblelaw17.OrderDoms", spec := "orderDoms", unfollowed := true, recurses := true, apart := false }
def OrderDomsSaid : Prop := orderDomsRow.holds Try.pinned (OpenSpec.ofChange orderDomsSpec)

/-- ITS FALSE NEIGHBOUR: 'it returns false'. Refute it at one input. -/
def orderDomsWrong : ChangeSpec := { name := "orderDoms", fn := fun _ => fun
  | [d] => { results := [.lit (.bool false)], args := [d] }
  | _ => none }
def OrderDomsWrongFalsely : Prop := orderDomsRow.holds Try.pinned (OpenSpec.ofChange orderDomsWrong)

/-- 'cruciblelaw17.OrderTree': WHATEVER THE INPUT: true; the input reads as it did. -/
def orderTreeSpec : ChangeSpec := { name := "orderTree", fn := fun _ => fun
  | [d] => { results := [.lit (.bool true)], args := [d] }
  | _ => none }
def orderTreeRow : OpenClaim := { program := "ytbklmnieakefnaa", sum := "38cf9ef4db4f26f52317300cb244c8ff0a335828493c877381cf2b5052a5d9c7", func := "crucible/cruciblelaw17.OrderTree", spec := "orderTree", unfollowed := true, recurses := true, apart := false }
def OrderTreeSaid : Prop := orderTreeRow.holds Try.pinned (OpenSpec.ofChange orderTreeSpec)

/-- ITS FALSE NEIGHBOUR: 'it returns false'. Refute it at one input. -/
def orderTreeWrong : ChangeSpec := { name := "orderTree", fn := fun _ => fun
  | [d] => { results := [.lit (.bool false)], args := [d] }
  | _ => none }
def OrderTreeWrongFalsely : Prop := orderTreeRow.holds Try.pinned (OpenSpec.ofChange orderTreeWrong)

/-- 'cruciblelaw17.OrderFrontiers': WHATEVER THE INPUT: true; the input reads as it did. -/
def orderFrontiersSpec : ChangeSpec := { name := "orderFrontiers", fn := fun _ => fun
  | [d] => { results := [.lit (.bool true)], args := [d] }
  | _ => none }
def orderFrontiersRow : OpenClaim := { program := "ytbklmnieakefnaa", sum := "38cf9ef4db4f26f52317300cb244c8ff0a335828493c877381cf2b5052a5d9c7", func := "crucible/cruciblelaw17.OrderFrontiers", spec := "orderFrontiers", unfollowed := true, recurses := true, apart := false }
def OrderFrontiersSaid : Prop := orderFrontiersRow.holds Try.pinned (OpenSpec.ofChange orderFrontiersSpec)

/-- ITS FALSE NEIGHBOUR: 'it returns false'. Refute it at one input. -/
def orderFrontiersWrong : ChangeSpec := { name := "orderFrontiers", fn := fun _ => fun
  | [d] => { results := [.lit (.bool false)], args := [d] }
  | _ => none }
def OrderFrontiersWrongFalsely : Prop := orderFrontiersRow.holds Try.pinned (OpenSpec.ofChange orderFrontiersWrong)

/-- 'cruciblelaw17.OrderLoops': WHATEVER THE INPUT: true; the input reads as it did. -/
def orderLoopsSpec : ChangeSpec := { name := "orderLoops", fn := fun _ => fun
  | [d] => { results := [.lit (.bool true)], args := [d] }
  | _ => none }
def orderLoopsRow : OpenClaim := { program := "ytbklmnieakefnaa", sum := "38cf9ef4db4f26f52317300cb244c8ff0a335828493c877381cf2b5052a5d9c7", func := "crucible/cruciblelaw17.OrderLoops", spec := "orderLoops", unfollowed := true, recurses := true, apart := false }
def OrderLoopsSaid : Prop := orderLoopsRow.holds Try.pinned (OpenSpec.ofChange orderLoopsSpec)

/-- ITS FALSE NEIGHBOUR: 'it returns false'. Refute it at one input. -/
def orderLoopsWrong : ChangeSpec := { name := "orderLoops", fn := fun _ => fun
  | [d] => { results := [.lit (.bool false)], args := [d] }
  | _ => none }
def OrderLoopsWrongFalsely : Prop := orderLoopsRow.holds Try.pinned (OpenSpec.ofChange orderLoopsWrong)

/-- 'cruciblelaw17.OrderNests': WHATEVER THE INPUT: true; the input reads as it did. -/
def orderNestsSpec : ChangeSpec := { name := "orderNests", fn := fun _ => fun
  | [d] => { results := [.lit (.bool true)], args := [d] }
  | _ => none }
def orderNestsRow : OpenClaim := { program := "ytbklmnieakefnaa", sum := "38cf9ef4db4f26f52317300cb244c8ff0a335828493c877381cf2b5052a5d9c7", func := "crucible/cruciblelaw17.OrderNests", spec := "orderNests", unfollowed := true, recurses := true, apart := false }
def OrderNestsSaid : Prop := orderNestsRow.holds Try.pinned (OpenSpec.ofChange orderNestsSpec)

/-- ITS FALSE NEIGHBOUR: 'it returns false'. Refute it at one input. -/
def orderNestsWrong : ChangeSpec := { name := "orderNests", fn := fun _ => fun
  | [d] => { results := [.lit (.bool false)], args := [d] }
  | _ => none }
def OrderNestsWrongFalsely : Prop := orderNestsRow.holds Try.pinned (OpenSpec.ofChange orderNestsWrong)

/- THE SECOND FORM. 'bulk': how many values and letters a reading holds, each counted each time it is reached (what is shared counts as often as it is met; a slice's spare places count too). A statement '..UptoSaid' is the law's where the arguments, and the package variables that the reading takes, are together of bulk at most 1048576: NARROWER than '..Said'. Prove '..Said' where nothing that the law and all that it calls make is longer than what came in: it says more and counts as full. Else prove '..UptoSaid'. A law counts once. -/
mutual
def uptoBulk {H : Type} : DataW H → Nat
  | .lit (.string bytes) => bytes.length + 1
  | .lit _ => 1
  | .nil => 1
  | .ptr d => uptoBulk d + 1
  | .slice elems spare => uptoBulkAll elems + uptoBulkAll spare + 1
  | .agg parts => uptoBulkAll parts + 1
  | .iface _ d => uptoBulk d + 1
  | .map entries => uptoBulkEntries entries + 1
  | .held _ => 1
def uptoBulkAll {H : Type} : List (DataW H) → Nat
  | [] => 0
  | d :: r => uptoBulk d + uptoBulkAll r
def uptoBulkEntries {H : Type} : List (Lit × DataW H) → Nat
  | [] => 0
  | x :: r => uptoBulkEntry x + uptoBulkEntries r
def uptoBulkEntry {H : Type} : Lit × DataW H → Nat
  | (.string bytes, d) => bytes.length + uptoBulk d + 1
  | (_, d) => uptoBulk d + 1
 end
def uptoSmall : (H : Type) → List (DataW H) → Bool := fun _ ds => decide (uptoBulkAll ds ≤ 1048576)
def OpenSpec.upto (s : _root_.Go.ChangeSpec) : _root_.Go.OpenSpec := { _root_.Go.OpenSpec.ofChange s with cond := some uptoSmall }

/-- 'cruciblelaw17.OrderWalks', WHERE WHAT IT READS IS OF BULK AT MOST 1048576: true; the input reads as it did. -/
def orderWalksUptoRow : OpenClaim := { program := "ytbklmnieakefnaa", sum := "38cf9ef4db4f26f52317300cb244c8ff0a335828493c877381cf2b5052a5d9c7", func := "crucible/cruciblelaw17.OrderWalks", spec := "orderWalks", unfollowed := true, recurses := true, apart := false, narrowed := true }
def OrderWalksUptoSaid : Prop := orderWalksUptoRow.holds Try.pinned (OpenSpec.upto orderWalksSpec)

/-- 'cruciblelaw17.OrderDoms', WHERE WHAT IT READS IS OF BULK AT MOST 1048576: true; the input reads as it did. -/
def orderDomsUptoRow : OpenClaim := { program := "ytbklmnieakefnaa", sum := "38cf9ef4db4f26f52317300cb244c8ff0a335828493c877381cf2b5052a5d9c7", func := "crucible/cruciblelaw17.OrderDoms", spec := "orderDoms", unfollowed := true, recurses := true, apart := false, narrowed := true }
def OrderDomsUptoSaid : Prop := orderDomsUptoRow.holds Try.pinned (OpenSpec.upto orderDomsSpec)

/-- 'cruciblelaw17.OrderTree', WHERE WHAT IT READS IS OF BULK AT MOST 1048576: true; the input reads as it did. -/
def orderTreeUptoRow : OpenClaim := { program := "ytbklmnieakefnaa", sum := "38cf9ef4db4f26f52317300cb244c8ff0a335828493c877381cf2b5052a5d9c7", func := "crucible/cruciblelaw17.OrderTree", spec := "orderTree", unfollowed := true, recurses := true, apart := false, narrowed := true }
def OrderTreeUptoSaid : Prop := orderTreeUptoRow.holds Try.pinned (OpenSpec.upto orderTreeSpec)

/-- 'cruciblelaw17.OrderFrontiers', WHERE WHAT IT READS IS OF BULK AT MOST 1048576: true; the input reads as it did. -/
def orderFrontiersUptoRow : OpenClaim := { program := "ytbklmnieakefnaa", sum := "38cf9ef4db4f26f52317300cb244c8ff0a335828493c877381cf2b5052a5d9c7", func := "crucible/cruciblelaw17.OrderFrontiers", spec := "orderFrontiers", unfollowed := true, recurses := true, apart := false, narrowed := true }
def OrderFrontiersUptoSaid : Prop := orderFrontiersUptoRow.holds Try.pinned (OpenSpec.upto orderFrontiersSpec)

/-- 'cruciblelaw17.OrderLoops', WHERE WHAT IT READS IS OF BULK AT MOST 1048576: true; the input reads as it did. -/
def orderLoopsUptoRow : OpenClaim := { program := "ytbklmnieakefnaa", sum := "38cf9ef4db4f26f52317300cb244c8ff0a335828493c877381cf2b5052a5d9c7", func := "crucible/cruciblelaw17.OrderLoops", spec := "orderLoops", unfollowed := true, recurses := true, apart := false, narrowed := true }
def OrderLoopsUptoSaid : Prop := orderLoopsUptoRow.holds Try.pinned (OpenSpec.upto orderLoopsSpec)

/-- 'cruciblelaw17.OrderNests', WHERE WHAT IT READS IS OF BULK AT MOST 1048576: true; the input reads as it did. -/
def orderNestsUptoRow : OpenClaim := { program := "ytbklmnieakefnaa", sum := "38cf9ef4db4f26f52317300cb244c8ff0a335828493c877381cf2b5052a5d9c7", func := "crucible/cruciblelaw17.OrderNests", spec := "orderNests", unfollowed := true, recurses := true, apart := false, narrowed := true }
def OrderNestsUptoSaid : Prop := orderNestsUptoRow.holds Try.pinned (OpenSpec.upto orderNestsSpec)

end Rows
end Go.Proofs.Ytbklmnieakefnaa
