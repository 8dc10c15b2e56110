/-
  No cell of these rows narrows 'for every input' (looked for: loops, veiled, ifaces, maps, wideKeys, modest, calm, conditions, laid).
  DERIVED. THE GIVEN ROWS OF THIS SEAT. 2 by the template 'for every input the law returns true; each argument reads behind the call as it read before'; 0 by the template 'total and deterministic' (their statements: YtchclaipbahiiaaGreatTotals.lean).
  GIVEN WITH THE SEED: the statements are not yours to turn. If you find one false, say at which input.
  Laid BY PROGRAM, IN A SANDBOX (cutbox-rows.mjs): the forced cells as the released guide's own fill.sh prints them over the translation 26eb0f4d9a3dd8ad… (all of the seat's roots in one cut). By AI agents, Wed Nov 11 2026. No macro, syntax, notation, axiom, sorry.
-/
import Derived.Test.YtchclaipbahiiaaGreatChecked
import GoSem.Claim
import GoSem.ClaimJoined
import GoSem.ClaimMapViews
import Derived.JoinedTies
import Derived.KernelRfl
namespace Go.Proofs.YtchclaipbahiiaaGreat
/- THE CELL 'sum', in the pinned program and in every row, IS THE sha256 OF THE DUMP (.gsa) THAT YtchclaipbahiiaaGreatProg.lean LOADS. Nothing in Lean hashes anything: it is a label: what it is worth is what the hold of that sum in a sandbox is worth. -/
noncomputable def Tryz.pinned : Pinned := { name := "ytchclaipbahiiaagreat", sum := "26eb0f4d9a3dd8adfabf7f6402ed9edd5d51520f4998383bddfbf9222398957d", checked := Tryz.checked }
namespace Rows
def none {H : Type} : Left H := { results := [], args := [] }

/-- 'telluriontop.TopCuttable': WHATEVER THE INPUT: true; the input reads as it did. -/
def topCuttableSpec : ChangeSpec := { name := "topCuttable", fn := fun _ => fun
  | [d1, d2, d3] => { results := [.lit (.bool true)], args := [d1, d2, d3] }
  | _ => none }
def topCuttableRow : OpenClaim := { program := "ytchclaipbahiiaagreat", sum := "26eb0f4d9a3dd8adfabf7f6402ed9edd5d51520f4998383bddfbf9222398957d", func := "tellurion/telluriontop.TopCuttable", spec := "topCuttable", unfollowed := true, recurses := true, apart := false }
def TopCuttableSaid : Prop := topCuttableRow.holds Tryz.pinned (OpenSpec.ofChange topCuttableSpec)

/-- ITS FALSE NEIGHBOUR: 'it returns false'. Refute it at one input. -/
def topCuttableWrong : ChangeSpec := { name := "topCuttable", fn := fun _ => fun
  | [d1, d2, d3] => { results := [.lit (.bool false)], args := [d1, d2, d3] }
  | _ => none }
def TopCuttableWrongFalsely : Prop := topCuttableRow.holds Tryz.pinned (OpenSpec.ofChange topCuttableWrong)

/-- 'telluriontop.TopSlack': WHATEVER THE INPUT: true; the input reads as it did. -/
def topSlackSpec : ChangeSpec := { name := "topSlack", fn := fun _ => fun
  | [d1, d2, d3, d4] => { results := [.lit (.bool true)], args := [d1, d2, d3, d4] }
  | _ => none }
def topSlackRow : OpenClaim := { program := "ytchclaipbahiiaagreat", sum := "26eb0f4d9a3dd8adfabf7f6402ed9edd5d51520f4998383bddfbf9222398957d", func := "tellurion/telluriontop.TopSlack", spec := "topSlack", unfollowed := true, recurses := true, apart := false }
def TopSlackSaid : Prop := topSlackRow.holds Tryz.pinned (OpenSpec.ofChange topSlackSpec)

/-- ITS FALSE NEIGHBOUR: 'it returns false'. Refute it at one input. -/
def topSlackWrong : ChangeSpec := { name := "topSlack", fn := fun _ => fun
  | [d1, d2, d3, d4] => { results := [.lit (.bool false)], args := [d1, d2, d3, d4] }
  | _ => none }
def TopSlackWrongFalsely : Prop := topSlackRow.holds Tryz.pinned (OpenSpec.ofChange topSlackWrong)

/- THE SECOND FORM. 'bulk': how many values and letters a reading holds, each counted each time it is reached (what is shared counts as often as it is met; a slice's spare places count too). A statement '..UptoSaid' is the law's where the arguments, and the package variables that the reading takes, are together of bulk at most 1048576: NARROWER than '..Said'. Prove '..Said' where nothing that the law and all that it calls make is longer than what came in: it says more and counts as full. Else prove '..UptoSaid'. A law counts once. -/
mutual
def uptoBulk {H : Type} : DataW H → Nat
  | .lit (.string bytes) => bytes.length + 1
  | .lit _ => 1
  | .nil => 1
  | .ptr d => uptoBulk d + 1
  | .slice elems spare => uptoBulkAll elems + uptoBulkAll spare + 1
  | .agg parts => uptoBulkAll parts + 1
  | .iface _ d => uptoBulk d + 1
  | .map entries => uptoBulkEntries entries + 1
  | .held _ => 1
def uptoBulkAll {H : Type} : List (DataW H) → Nat
  | [] => 0
  | d :: r => uptoBulk d + uptoBulkAll r
def uptoBulkEntries {H : Type} : List (Lit × DataW H) → Nat
  | [] => 0
  | x :: r => uptoBulkEntry x + uptoBulkEntries r
def uptoBulkEntry {H : Type} : Lit × DataW H → Nat
  | (.string bytes, d) => bytes.length + uptoBulk d + 1
  | (_, d) => uptoBulk d + 1
 end
def uptoSmall : (H : Type) → List (DataW H) → Bool := fun _ ds => decide (uptoBulkAll ds ≤ 1048576)
def OpenSpec.upto (s : _root_.Go.ChangeSpec) : _root_.Go.OpenSpec := { _root_.Go.OpenSpec.ofChange s with cond := some uptoSmall }

/-- 'telluriontop.TopCuttable', WHERE WHAT IT READS IS OF BULK AT MOST 1048576: true; the input reads as it did. -/
def topCuttableUptoRow : OpenClaim := { program := "ytchclaipbahiiaagreat", sum := "26eb0f4d9a3dd8adfabf7f6402ed9edd5d51520f4998383bddfbf9222398957d", func := "tellurion/telluriontop.TopCuttable", spec := "topCuttable", unfollowed := true, recurses := true, apart := false, narrowed := true }
def TopCuttableUptoSaid : Prop := topCuttableUptoRow.holds Tryz.pinned (OpenSpec.upto topCuttableSpec)

/-- 'telluriontop.TopSlack', WHERE WHAT IT READS IS OF BULK AT MOST 1048576: true; the input reads as it did. -/
def topSlackUptoRow : OpenClaim := { program := "ytchclaipbahiiaagreat", sum := "26eb0f4d9a3dd8adfabf7f6402ed9edd5d51520f4998383bddfbf9222398957d", func := "tellurion/telluriontop.TopSlack", spec := "topSlack", unfollowed := true, recurses := true, apart := false, narrowed := true }
def TopSlackUptoSaid : Prop := topSlackUptoRow.holds Tryz.pinned (OpenSpec.upto topSlackSpec)

end Rows
end Go.Proofs.YtchclaipbahiiaaGreat
