/-
  No cell of these rows narrows 'for every input' (looked for: loops, veiled, ifaces, maps, wideKeys, modest, calm, conditions, laid).
  DERIVED. THE GIVEN ROWS OF THIS SEAT. 5 by the template 'for every input the law returns true; each argument reads behind the call as it read before'; 0 by the template 'total and deterministic' (their statements: YtmefcnfmbaajcaaTotals.lean).
  GIVEN WITH THE SEED: the statements are not yours to turn. If you find one false, say at which input.
  Laid BY PROGRAM, IN A SANDBOX (cutbox-rows.mjs): the forced cells as the released guide's own fill.sh prints them over the translation 399f6283b5f25ce5… (all of the seat's roots in one cut). By AI agents, Wed Nov 11 2026. No macro, syntax, notation, axiom, sorry.
-/
import Derived.Test.YtmefcnfmbaajcaaChecked
import GoSem.Claim
import GoSem.ClaimJoined
import GoSem.ClaimMapViews
import Derived.JoinedTies
import Derived.KernelRfl
namespace Go.Proofs.Ytmefcnfmbaajcaa
/- THE CELL 'sum', in the pinned program and in every row, IS THE sha256 OF THE DUMP (.gsa) THAT YtmefcnfmbaajcaaProg.lean LOADS. Nothing in Lean hashes anything: it is a label: what it is worth is what the hold of that sum in a sandbox is worth. -/
noncomputable def Try.pinned : Pinned := { name := "ytmefcnfmbaajcaa", sum := "399f6283b5f25ce5b96ad10400d176836179e25a65daaab8b2c9399872b11c03", checked := Try.checked }
namespace Rows
def none {H : Type} : Left H := { results := [], args := [] }

/-- 'headgatelaw03.AddrBoth': WHATEVER THE INPUT: true; the input reads as it did. -/
def addrBothSpec : ChangeSpec := { name := "addrBoth", fn := fun _ => fun
  | [d1, d2, d3] => { results := [.lit (.bool true)], args := [d1, d2, d3] }
  | _ => none }
def addrBothRow : OpenClaim := { program := "ytmefcnfmbaajcaa", sum := "399f6283b5f25ce5b96ad10400d176836179e25a65daaab8b2c9399872b11c03", func := "headgate/headgatelaw03.AddrBoth", spec := "addrBoth", unfollowed := true, recurses := true, apart := false }
def AddrBothSaid : Prop := addrBothRow.holds Try.pinned (OpenSpec.ofChange addrBothSpec)

/-- ITS FALSE NEIGHBOUR: 'it returns false'. Refute it at one input. -/
def addrBothWrong : ChangeSpec := { name := "addrBoth", fn := fun _ => fun
  | [d1, d2, d3] => { results := [.lit (.bool false)], args := [d1, d2, d3] }
  | _ => none }
def AddrBothWrongFalsely : Prop := addrBothRow.holds Try.pinned (OpenSpec.ofChange addrBothWrong)

/-- 'headgatelaw03.AddrWhere': WHATEVER THE INPUT: true; the input reads as it did. -/
def addrWhereSpec : ChangeSpec := { name := "addrWhere", fn := fun _ => fun
  | [d1, d2] => { results := [.lit (.bool true)], args := [d1, d2] }
  | _ => none }
def addrWhereRow : OpenClaim := { program := "ytmefcnfmbaajcaa", sum := "399f6283b5f25ce5b96ad10400d176836179e25a65daaab8b2c9399872b11c03", func := "headgate/headgatelaw03.AddrWhere", spec := "addrWhere", unfollowed := true, recurses := true, apart := false }
def AddrWhereSaid : Prop := addrWhereRow.holds Try.pinned (OpenSpec.ofChange addrWhereSpec)

/-- ITS FALSE NEIGHBOUR: 'it returns false'. Refute it at one input. -/
def addrWhereWrong : ChangeSpec := { name := "addrWhere", fn := fun _ => fun
  | [d1, d2] => { results := [.lit (.bool false)], args := [d1, d2] }
  | _ => none }
def AddrWhereWrongFalsely : Prop := addrWhereRow.holds Try.pinned (OpenSpec.ofChange addrWhereWrong)

/-- 'headgatelaw03.AddrBack': WHATEVER THE INPUT: true; the input reads as it did. -/
def addrBackSpec : ChangeSpec := { name := "addrBack", fn := fun _ => fun
  | [d1, d2] => { results := [.lit (.bool true)], args := [d1, d2] }
  | _ => none }
def addrBackRow : OpenClaim := { program := "ytmefcnfmbaajcaa", sum := "399f6283b5f25ce5b96ad10400d176836179e25a65daaab8b2c9399872b11c03", func := "headgate/headgatelaw03.AddrBack", spec := "addrBack", unfollowed := true, recurses := true, apart := false }
def AddrBackSaid : Prop := addrBackRow.holds Try.pinned (OpenSpec.ofChange addrBackSpec)

/-- ITS FALSE NEIGHBOUR: 'it returns false'. Refute it at one input. -/
def addrBackWrong : ChangeSpec := { name := "addrBack", fn := fun _ => fun
  | [d1, d2] => { results := [.lit (.bool false)], args := [d1, d2] }
  | _ => none }
def AddrBackWrongFalsely : Prop := addrBackRow.holds Try.pinned (OpenSpec.ofChange addrBackWrong)

/-- 'headgatelaw03.AddrApart': WHATEVER THE INPUT: true; the input reads as it did. -/
def addrApartSpec : ChangeSpec := { name := "addrApart", fn := fun _ => fun
  | [d] => { results := [.lit (.bool true)], args := [d] }
  | _ => none }
def addrApartRow : OpenClaim := { program := "ytmefcnfmbaajcaa", sum := "399f6283b5f25ce5b96ad10400d176836179e25a65daaab8b2c9399872b11c03", func := "headgate/headgatelaw03.AddrApart", spec := "addrApart", unfollowed := true, recurses := true, apart := false }
def AddrApartSaid : Prop := addrApartRow.holds Try.pinned (OpenSpec.ofChange addrApartSpec)

/-- ITS FALSE NEIGHBOUR: 'it returns false'. Refute it at one input. -/
def addrApartWrong : ChangeSpec := { name := "addrApart", fn := fun _ => fun
  | [d] => { results := [.lit (.bool false)], args := [d] }
  | _ => none }
def AddrApartWrongFalsely : Prop := addrApartRow.holds Try.pinned (OpenSpec.ofChange addrApartWrong)

/-- 'headgatelaw03.AddrRanges': WHATEVER THE INPUT: true; the input reads as it did. -/
def addrRangesSpec : ChangeSpec := { name := "addrRanges", fn := fun _ => fun
  | [d1, d2, d3] => { results := [.lit (.bool true)], args := [d1, d2, d3] }
  | _ => none }
def addrRangesRow : OpenClaim := { program := "ytmefcnfmbaajcaa", sum := "399f6283b5f25ce5b96ad10400d176836179e25a65daaab8b2c9399872b11c03", func := "headgate/headgatelaw03.AddrRanges", spec := "addrRanges", unfollowed := true, recurses := true, apart := false }
def AddrRangesSaid : Prop := addrRangesRow.holds Try.pinned (OpenSpec.ofChange addrRangesSpec)

/-- ITS FALSE NEIGHBOUR: 'it returns false'. Refute it at one input. -/
def addrRangesWrong : ChangeSpec := { name := "addrRanges", fn := fun _ => fun
  | [d1, d2, d3] => { results := [.lit (.bool false)], args := [d1, d2, d3] }
  | _ => none }
def AddrRangesWrongFalsely : Prop := addrRangesRow.holds Try.pinned (OpenSpec.ofChange addrRangesWrong)

/- THE SECOND FORM. 'bulk': how many values and letters a reading holds, each counted each time it is reached (what is shared counts as often as it is met; a slice's spare places count too). A statement '..UptoSaid' is the law's where the arguments, and the package variables that the reading takes, are together of bulk at most 1048576: NARROWER than '..Said'. Prove '..Said' where nothing that the law and all that it calls make is longer than what came in: it says more and counts as full. Else prove '..UptoSaid'. A law counts once. -/
mutual
def uptoBulk {H : Type} : DataW H → Nat
  | .lit (.string bytes) => bytes.length + 1
  | .lit _ => 1
  | .nil => 1
  | .ptr d => uptoBulk d + 1
  | .slice elems spare => uptoBulkAll elems + uptoBulkAll spare + 1
  | .agg parts => uptoBulkAll parts + 1
  | .iface _ d => uptoBulk d + 1
  | .map entries => uptoBulkEntries entries + 1
  | .held _ => 1
def uptoBulkAll {H : Type} : List (DataW H) → Nat
  | [] => 0
  | d :: r => uptoBulk d + uptoBulkAll r
def uptoBulkEntries {H : Type} : List (Lit × DataW H) → Nat
  | [] => 0
  | x :: r => uptoBulkEntry x + uptoBulkEntries r
def uptoBulkEntry {H : Type} : Lit × DataW H → Nat
  | (.string bytes, d) => bytes.length + uptoBulk d + 1
  | (_, d) => uptoBulk d + 1
 end
def uptoSmall : (H : Type) → List (DataW H) → Bool := fun _ ds => decide (uptoBulkAll ds ≤ 1048576)
def OpenSpec.upto (s : _root_.Go.ChangeSpec) : _root_.Go.OpenSpec := { _root_.Go.OpenSpec.ofChange s with cond := some uptoSmall }

/-- 'headgatelaw03.AddrBoth', WHERE WHAT IT READS IS OF BULK AT MOST 1048576: true; the input reads as it did. -/
def addrBothUptoRow : OpenClaim := { program := "ytmefcnfmbaajcaa", sum := "399f6283b5f25ce5b96ad10400d176836179e25a65daaab8b2c9399872b11c03", func := "headgate/headgatelaw03.AddrBoth", spec := "addrBoth", unfollowed := true, recurses := true, apart := false, narrowed := true }
def AddrBothUptoSaid : Prop := addrBothUptoRow.holds Try.pinned (OpenSpec.upto addrBothSpec)

/-- 'headgatelaw03.AddrWhere', WHERE WHAT IT READS IS OF BULK AT MOST 1048576: true; the input reads as it did. -/
def addrWhereUptoRow : OpenClaim := { program := "ytmefcnfmbaajcaa", sum := "399f6283b5f25ce5b96ad10400d176836179e25a65daaab8b2c9399872b11c03", func := "headgate/headgatelaw03.AddrWhere", spec := "addrWhere", unfollowed := true, recurses := true, apart := false, narrowed := true }
def AddrWhereUptoSaid : Prop := addrWhereUptoRow.holds Try.pinned (OpenSpec.upto addrWhereSpec)

/-- 'headgatelaw03.AddrBack', WHERE WHAT IT READS IS OF BULK AT MOST 1048576: true; the input reads as it did. -/
def addrBackUptoRow : OpenClaim := { program := "ytmefcnfmbaajcaa", sum := "399f6283b5f25ce5b96ad10400d176836179e25a65daaab8b2c9399872b11c03", func := "headgate/headgatelaw03.AddrBack", spec := "addrBack", unfollowed := true, recurses := true, apart := false, narrowed := true }
def AddrBackUptoSaid : Prop := addrBackUptoRow.holds Try.pinned (OpenSpec.upto addrBackSpec)

/-- 'headgatelaw03.AddrApart', WHERE WHAT IT READS IS OF BULK AT MOST 1048576: true; the input reads as it did. -/
def addrApartUptoRow : OpenClaim := { program := "ytmefcnfmbaajcaa", sum := "399f6283b5f25ce5b96ad10400d176836179e25a65daaab8b2c9399872b11c03", func := "headgate/headgatelaw03.AddrApart", spec := "addrApart", unfollowed := true, recurses := true, apart := false, narrowed := true }
def AddrApartUptoSaid : Prop := addrApartUptoRow.holds Try.pinned (OpenSpec.upto addrApartSpec)

/-- 'headgatelaw03.AddrRanges', WHERE WHAT IT READS IS OF BULK AT MOST 1048576: true; the input reads as it did. -/
def addrRangesUptoRow : OpenClaim := { program := "ytmefcnfmbaajcaa", sum := "399f6283b5f25ce5b96ad10400d176836179e25a65daaab8b2c9399872b11c03", func := "headgate/headgatelaw03.AddrRanges", spec := "addrRanges", unfollowed := true, recurses := true, apart := false, narrowed := true }
def AddrRangesUptoSaid : Prop := addrRangesUptoRow.holds Try.pinned (OpenSpec.upto addrRangesSpec)

end Rows
end Go.Proofs.Ytmefcnfmbaajcaa
