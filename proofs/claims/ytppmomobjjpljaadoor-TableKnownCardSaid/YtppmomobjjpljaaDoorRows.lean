/-
  NARROWER THAN 'FOR EVERY INPUT', by the rows' own cells (each row's printed sentence says how): TableLooks: laid · TableParts: laid · TableBack: laid · TableTrims: laid · TablePuts: laid · TableKnown: laid.
  DERIVED. THE GIVEN ROWS OF THIS SEAT. 6 by the template 'for every input the law returns true; each argument reads behind the call as it read before'; 0 by the template 'total and deterministic' (their statements: YtppmomobjjpljaaDoorTotals.lean).
  GIVEN WITH THE SEED: the statements are not yours to turn. If you find one false, say at which input.
  Laid BY PROGRAM, IN A SANDBOX (cutbox-rows.mjs): the forced cells as the released guide's own fill.sh prints them over the translation dfcb0daadf4a3fe1… (all of the seat's roots in one cut). By AI agents, Wed Nov 11 2026. No macro, syntax, notation, axiom, sorry.
-/
import Derived.Test.YtppmomobjjpljaaDoorChecked
import GoSem.Claim
import GoSem.ClaimJoined
import GoSem.ClaimMapViews
import Derived.JoinedTies
import Derived.KernelRfl
namespace Go.Proofs.YtppmomobjjpljaaDoor
/- THE CELL 'sum', in the pinned program and in every row, IS THE sha256 OF THE DUMP (.gsa) THAT YtppmomobjjpljaaDoorProg.lean LOADS. Nothing in Lean hashes anything: it is a label: what it is worth is what the hold of that sum in a sandbox is worth. -/
noncomputable def Tryd.pinned : Pinned := { name := "ytppmomobjjpljaadoor", sum := "dfcb0daadf4a3fe14a58078b9f618363c4b1ea90e1dd7bbb8cf9ee0b04d623f0", checked := Tryd.checked }
namespace Rows
def none {H : Type} : Left H := { results := [], args := [] }

/- WHAT THE LISTED PACKAGE-LEVEL VARIABLES READ AS WHEN THE CALL BEGINS. Each datum BY PROGRAM (the guide's laid-datum.mjs) off the statement by which the dump's own 'gosem.cut.vars' lays the variable. In a bare row this is a premise. The card (YtppmomobjjpljaaDoorCards.lean) ties it to the program's text. -/
def laid_headgate_entry_flagBits {H : Type} : DataW H := .agg [.lit (.int .u64 4), .lit (.int .u64 8), .lit (.int .u64 16)]

/-- 'headgatelaw23.TableLooks': WHATEVER THE INPUT: true; the input reads as it did. -/
def tableLooksSpec : ChangeSpec := { name := "tableLooks", fn := fun _ => fun
  | [d1, d2, d3, d4] => { results := [.lit (.bool true)], args := [d1, d2, d3, d4] }
  | _ => none }
def tableLooksRow : OpenClaim := { program := "ytppmomobjjpljaadoor", sum := "dfcb0daadf4a3fe14a58078b9f618363c4b1ea90e1dd7bbb8cf9ee0b04d623f0", func := "headgate/headgatelaw23.TableLooks", spec := "tableLooks", unfollowed := true, recurses := true, named := ["headgate/entry.flagBits"], apart := false, laid := [("headgate/entry.flagBits", laid_headgate_entry_flagBits)] }
def TableLooksSaid : Prop := tableLooksRow.holds Tryd.pinned (OpenSpec.ofChange tableLooksSpec)

/-- ITS FALSE NEIGHBOUR: 'it returns false'. Refute it at one input. -/
def tableLooksWrong : ChangeSpec := { name := "tableLooks", fn := fun _ => fun
  | [d1, d2, d3, d4] => { results := [.lit (.bool false)], args := [d1, d2, d3, d4] }
  | _ => none }
def TableLooksWrongFalsely : Prop := tableLooksRow.holds Tryd.pinned (OpenSpec.ofChange tableLooksWrong)

/-- 'headgatelaw23.TableParts': WHATEVER THE INPUT: true; the input reads as it did. -/
def tablePartsSpec : ChangeSpec := { name := "tableParts", fn := fun _ => fun
  | [d] => { results := [.lit (.bool true)], args := [d] }
  | _ => none }
def tablePartsRow : OpenClaim := { program := "ytppmomobjjpljaadoor", sum := "dfcb0daadf4a3fe14a58078b9f618363c4b1ea90e1dd7bbb8cf9ee0b04d623f0", func := "headgate/headgatelaw23.TableParts", spec := "tableParts", unfollowed := true, recurses := true, named := ["headgate/entry.flagBits"], apart := false, laid := [("headgate/entry.flagBits", laid_headgate_entry_flagBits)] }
def TablePartsSaid : Prop := tablePartsRow.holds Tryd.pinned (OpenSpec.ofChange tablePartsSpec)

/-- ITS FALSE NEIGHBOUR: 'it returns false'. Refute it at one input. -/
def tablePartsWrong : ChangeSpec := { name := "tableParts", fn := fun _ => fun
  | [d] => { results := [.lit (.bool false)], args := [d] }
  | _ => none }
def TablePartsWrongFalsely : Prop := tablePartsRow.holds Tryd.pinned (OpenSpec.ofChange tablePartsWrong)

/-- 'headgatelaw23.TableBack': WHATEVER THE INPUT: true; the input reads as it did. -/
def tableBackSpec : ChangeSpec := { name := "tableBack", fn := fun _ => fun
  | [d1, d2, d3] => { results := [.lit (.bool true)], args := [d1, d2, d3] }
  | _ => none }
def tableBackRow : OpenClaim := { program := "ytppmomobjjpljaadoor", sum := "dfcb0daadf4a3fe14a58078b9f618363c4b1ea90e1dd7bbb8cf9ee0b04d623f0", func := "headgate/headgatelaw23.TableBack", spec := "tableBack", unfollowed := true, recurses := true, named := ["headgate/entry.flagBits"], apart := false, laid := [("headgate/entry.flagBits", laid_headgate_entry_flagBits)] }
def TableBackSaid : Prop := tableBackRow.holds Tryd.pinned (OpenSpec.ofChange tableBackSpec)

/-- ITS FALSE NEIGHBOUR: 'it returns false'. Refute it at one input. -/
def tableBackWrong : ChangeSpec := { name := "tableBack", fn := fun _ => fun
  | [d1, d2, d3] => { results := [.lit (.bool false)], args := [d1, d2, d3] }
  | _ => none }
def TableBackWrongFalsely : Prop := tableBackRow.holds Tryd.pinned (OpenSpec.ofChange tableBackWrong)

/-- 'headgatelaw23.TableTrims': WHATEVER THE INPUT: true; the input reads as it did. -/
def tableTrimsSpec : ChangeSpec := { name := "tableTrims", fn := fun _ => fun
  | [d] => { results := [.lit (.bool true)], args := [d] }
  | _ => none }
def tableTrimsRow : OpenClaim := { program := "ytppmomobjjpljaadoor", sum := "dfcb0daadf4a3fe14a58078b9f618363c4b1ea90e1dd7bbb8cf9ee0b04d623f0", func := "headgate/headgatelaw23.TableTrims", spec := "tableTrims", unfollowed := true, recurses := true, named := ["headgate/entry.flagBits"], apart := false, laid := [("headgate/entry.flagBits", laid_headgate_entry_flagBits)] }
def TableTrimsSaid : Prop := tableTrimsRow.holds Tryd.pinned (OpenSpec.ofChange tableTrimsSpec)

/-- ITS FALSE NEIGHBOUR: 'it returns false'. Refute it at one input. -/
def tableTrimsWrong : ChangeSpec := { name := "tableTrims", fn := fun _ => fun
  | [d] => { results := [.lit (.bool false)], args := [d] }
  | _ => none }
def TableTrimsWrongFalsely : Prop := tableTrimsRow.holds Tryd.pinned (OpenSpec.ofChange tableTrimsWrong)

/-- 'headgatelaw23.TablePuts': WHATEVER THE INPUT: true; the input reads as it did. -/
def tablePutsSpec : ChangeSpec := { name := "tablePuts", fn := fun _ => fun
  | [d1, d2, d3, d4, d5] => { results := [.lit (.bool true)], args := [d1, d2, d3, d4, d5] }
  | _ => none }
def tablePutsRow : OpenClaim := { program := "ytppmomobjjpljaadoor", sum := "dfcb0daadf4a3fe14a58078b9f618363c4b1ea90e1dd7bbb8cf9ee0b04d623f0", func := "headgate/headgatelaw23.TablePuts", spec := "tablePuts", unfollowed := true, recurses := true, named := ["headgate/entry.flagBits"], apart := false, laid := [("headgate/entry.flagBits", laid_headgate_entry_flagBits)] }
def TablePutsSaid : Prop := tablePutsRow.holds Tryd.pinned (OpenSpec.ofChange tablePutsSpec)

/-- ITS FALSE NEIGHBOUR: 'it returns false'. Refute it at one input. -/
def tablePutsWrong : ChangeSpec := { name := "tablePuts", fn := fun _ => fun
  | [d1, d2, d3, d4, d5] => { results := [.lit (.bool false)], args := [d1, d2, d3, d4, d5] }
  | _ => none }
def TablePutsWrongFalsely : Prop := tablePutsRow.holds Tryd.pinned (OpenSpec.ofChange tablePutsWrong)

/-- 'headgatelaw23.TableKnown': WHATEVER THE INPUT: true; the input reads as it did. -/
def tableKnownSpec : ChangeSpec := { name := "tableKnown", fn := fun _ => fun
  | [] => { results := [.lit (.bool true)], args := [] }
  | _ => none }
def tableKnownRow : OpenClaim := { program := "ytppmomobjjpljaadoor", sum := "dfcb0daadf4a3fe14a58078b9f618363c4b1ea90e1dd7bbb8cf9ee0b04d623f0", func := "headgate/headgatelaw23.TableKnown", spec := "tableKnown", unfollowed := true, recurses := true, named := ["headgate/entry.flagBits"], apart := false, laid := [("headgate/entry.flagBits", laid_headgate_entry_flagBits)] }
def TableKnownSaid : Prop := tableKnownRow.holds Tryd.pinned (OpenSpec.ofChange tableKnownSpec)

/-- ITS FALSE NEIGHBOUR: 'it returns false'. Refute it at one input. -/
def tableKnownWrong : ChangeSpec := { name := "tableKnown", fn := fun _ => fun
  | [] => { results := [.lit (.bool false)], args := [] }
  | _ => none }
def TableKnownWrongFalsely : Prop := tableKnownRow.holds Tryd.pinned (OpenSpec.ofChange tableKnownWrong)

/- THE SECOND FORM. 'bulk': how many values and letters a reading holds, each counted each time it is reached (what is shared counts as often as it is met; a slice's spare places count too). A statement '..UptoSaid' is the law's where the arguments, and the package variables that the reading takes, are together of bulk at most 1048576: NARROWER than '..Said'. Prove '..Said' where nothing that the law and all that it calls make is longer than what came in: it says more and counts as full. Else prove '..UptoSaid'. A law counts once. -/
mutual
def uptoBulk {H : Type} : DataW H → Nat
  | .lit (.string bytes) => bytes.length + 1
  | .lit _ => 1
  | .nil => 1
  | .ptr d => uptoBulk d + 1
  | .slice elems spare => uptoBulkAll elems + uptoBulkAll spare + 1
  | .agg parts => uptoBulkAll parts + 1
  | .iface _ d => uptoBulk d + 1
  | .map entries => uptoBulkEntries entries + 1
  | .held _ => 1
def uptoBulkAll {H : Type} : List (DataW H) → Nat
  | [] => 0
  | d :: r => uptoBulk d + uptoBulkAll r
def uptoBulkEntries {H : Type} : List (Lit × DataW H) → Nat
  | [] => 0
  | x :: r => uptoBulkEntry x + uptoBulkEntries r
def uptoBulkEntry {H : Type} : Lit × DataW H → Nat
  | (.string bytes, d) => bytes.length + uptoBulk d + 1
  | (_, d) => uptoBulk d + 1
 end
def uptoSmall : (H : Type) → List (DataW H) → Bool := fun _ ds => decide (uptoBulkAll ds ≤ 1048576)
def OpenSpec.upto (s : _root_.Go.ChangeSpec) : _root_.Go.OpenSpec := { _root_.Go.OpenSpec.ofChange s with cond := some uptoSmall }

/-- 'headgatelaw23.TableLooks', WHERE WHAT IT READS IS OF BULK AT MOST 1048576: true; the input reads as it did. -/
def tableLooksUptoRow : OpenClaim := { program := "ytppmomobjjpljaadoor", sum := "dfcb0daadf4a3fe14a58078b9f618363c4b1ea90e1dd7bbb8cf9ee0b04d623f0", func := "headgate/headgatelaw23.TableLooks", spec := "tableLooks", unfollowed := true, recurses := true, named := ["headgate/entry.flagBits"], apart := false, laid := [("headgate/entry.flagBits", laid_headgate_entry_flagBits)], narrowed := true }
def TableLooksUptoSaid : Prop := tableLooksUptoRow.holds Tryd.pinned (OpenSpec.upto tableLooksSpec)

/-- 'headgatelaw23.TableParts', WHERE WHAT IT READS IS OF BULK AT MOST 1048576: true; the input reads as it did. -/
def tablePartsUptoRow : OpenClaim := { program := "ytppmomobjjpljaadoor", sum := "dfcb0daadf4a3fe14a58078b9f618363c4b1ea90e1dd7bbb8cf9ee0b04d623f0", func := "headgate/headgatelaw23.TableParts", spec := "tableParts", unfollowed := true, recurses := true, named := ["headgate/entry.flagBits"], apart := false, laid := [("headgate/entry.flagBits", laid_headgate_entry_flagBits)], narrowed := true }
def TablePartsUptoSaid : Prop := tablePartsUptoRow.holds Tryd.pinned (OpenSpec.upto tablePartsSpec)

/-- 'headgatelaw23.TableBack', WHERE WHAT IT READS IS OF BULK AT MOST 1048576: true; the input reads as it did. -/
def tableBackUptoRow : OpenClaim := { program := "ytppmomobjjpljaadoor", sum := "dfcb0daadf4a3fe14a58078b9f618363c4b1ea90e1dd7bbb8cf9ee0b04d623f0", func := "headgate/headgatelaw23.TableBack", spec := "tableBack", unfollowed := true, recurses := true, named := ["headgate/entry.flagBits"], apart := false, laid := [("headgate/entry.flagBits", laid_headgate_entry_flagBits)], narrowed := true }
def TableBackUptoSaid : Prop := tableBackUptoRow.holds Tryd.pinned (OpenSpec.upto tableBackSpec)

/-- 'headgatelaw23.TableTrims', WHERE WHAT IT READS IS OF BULK AT MOST 1048576: true; the input reads as it did. -/
def tableTrimsUptoRow : OpenClaim := { program := "ytppmomobjjpljaadoor", sum := "dfcb0daadf4a3fe14a58078b9f618363c4b1ea90e1dd7bbb8cf9ee0b04d623f0", func := "headgate/headgatelaw23.TableTrims", spec := "tableTrims", unfollowed := true, recurses := true, named := ["headgate/entry.flagBits"], apart := false, laid := [("headgate/entry.flagBits", laid_headgate_entry_flagBits)], narrowed := true }
def TableTrimsUptoSaid : Prop := tableTrimsUptoRow.holds Tryd.pinned (OpenSpec.upto tableTrimsSpec)

/-- 'headgatelaw23.TablePuts', WHERE WHAT IT READS IS OF BULK AT MOST 1048576: true; the input reads as it did. -/
def tablePutsUptoRow : OpenClaim := { program := "ytppmomobjjpljaadoor", sum := "dfcb0daadf4a3fe14a58078b9f618363c4b1ea90e1dd7bbb8cf9ee0b04d623f0", func := "headgate/headgatelaw23.TablePuts", spec := "tablePuts", unfollowed := true, recurses := true, named := ["headgate/entry.flagBits"], apart := false, laid := [("headgate/entry.flagBits", laid_headgate_entry_flagBits)], narrowed := true }
def TablePutsUptoSaid : Prop := tablePutsUptoRow.holds Tryd.pinned (OpenSpec.upto tablePutsSpec)

/-- 'headgatelaw23.TableKnown', WHERE WHAT IT READS IS OF BULK AT MOST 1048576: true; the input reads as it did. -/
def tableKnownUptoRow : OpenClaim := { program := "ytppmomobjjpljaadoor", sum := "dfcb0daadf4a3fe14a58078b9f618363c4b1ea90e1dd7bbb8cf9ee0b04d623f0", func := "headgate/headgatelaw23.TableKnown", spec := "tableKnown", unfollowed := true, recurses := true, named := ["headgate/entry.flagBits"], apart := false, laid := [("headgate/entry.flagBits", laid_headgate_entry_flagBits)], narrowed := true }
def TableKnownUptoSaid : Prop := tableKnownUptoRow.holds Tryd.pinned (OpenSpec.upto tableKnownSpec)

end Rows
end Go.Proofs.YtppmomobjjpljaaDoor
