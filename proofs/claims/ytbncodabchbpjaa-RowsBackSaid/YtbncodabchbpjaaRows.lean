/-
  No cell of these rows narrows 'for every input' (looked for: loops, veiled, ifaces, maps, wideKeys, modest, calm, conditions, laid).
  DERIVED. THE GIVEN ROWS OF THIS SEAT. 8 by the template 'for every input the law returns true; each argument reads behind the call as it read before'; 0 by the template 'total and deterministic' (their statements: YtbncodabchbpjaaTotals.lean).
  GIVEN WITH THE SEED: the statements are not yours to turn. If you find one false, say at which input.
  Laid BY PROGRAM, IN A SANDBOX (cutbox-rows.mjs): the forced cells as the released guide's own fill.sh prints them over the translation ed454b593ac590ab… (all of the seat's roots in one cut). By AI agents, Wed Nov 11 2026. No macro, syntax, notation, axiom, sorry.
-/
import Derived.Test.YtbncodabchbpjaaChecked
import GoSem.Claim
import GoSem.ClaimJoined
import GoSem.ClaimMapViews
import Derived.JoinedTies
import Derived.KernelRfl
namespace Go.Proofs.Ytbncodabchbpjaa
/- THE CELL 'sum', in the pinned program and in every row, IS THE sha256 OF THE DUMP (.gsa) THAT YtbncodabchbpjaaProg.lean LOADS. Nothing in Lean hashes anything: it is a label: what it is worth is what the hold of that sum in a sandbox is worth. -/
noncomputable def Try.pinned : Pinned := { name := "ytbncodabchbpjaa", sum := "ed454b593ac590ab1aad9f098c1c1b2254cc2566a89a27245ec29df9b77c4287", checked := Try.checked }
namespace Rows
def none {H : Type} : Left H := { results := [], args := [] }

/-- 'curialaw6.RowsPack': WHATEVER THE INPUT: true; the input reads as it did. -/
def rowsPackSpec : ChangeSpec := { name := "rowsPack", fn := fun _ => fun
  | [d] => { results := [.lit (.bool true)], args := [d] }
  | _ => none }
def rowsPackRow : OpenClaim := { program := "ytbncodabchbpjaa", sum := "ed454b593ac590ab1aad9f098c1c1b2254cc2566a89a27245ec29df9b77c4287", func := "curia/curialaw6.RowsPack", spec := "rowsPack", apart := false }
def RowsPackSaid : Prop := rowsPackRow.holds Try.pinned (OpenSpec.ofChange rowsPackSpec)

/-- ITS FALSE NEIGHBOUR: 'it returns false'. Refute it at one input. -/
def rowsPackWrong : ChangeSpec := { name := "rowsPack", fn := fun _ => fun
  | [d] => { results := [.lit (.bool false)], args := [d] }
  | _ => none }
def RowsPackWrongFalsely : Prop := rowsPackRow.holds Try.pinned (OpenSpec.ofChange rowsPackWrong)

/-- 'curialaw6.RowsFull': WHATEVER THE INPUT: true; the input reads as it did. -/
def rowsFullSpec : ChangeSpec := { name := "rowsFull", fn := fun _ => fun
  | [d1, d2] => { results := [.lit (.bool true)], args := [d1, d2] }
  | _ => none }
def rowsFullRow : OpenClaim := { program := "ytbncodabchbpjaa", sum := "ed454b593ac590ab1aad9f098c1c1b2254cc2566a89a27245ec29df9b77c4287", func := "curia/curialaw6.RowsFull", spec := "rowsFull", apart := false }
def RowsFullSaid : Prop := rowsFullRow.holds Try.pinned (OpenSpec.ofChange rowsFullSpec)

/-- ITS FALSE NEIGHBOUR: 'it returns false'. Refute it at one input. -/
def rowsFullWrong : ChangeSpec := { name := "rowsFull", fn := fun _ => fun
  | [d1, d2] => { results := [.lit (.bool false)], args := [d1, d2] }
  | _ => none }
def RowsFullWrongFalsely : Prop := rowsFullRow.holds Try.pinned (OpenSpec.ofChange rowsFullWrong)

/-- 'curialaw6.RowsOrder': WHATEVER THE INPUT: true; the input reads as it did. -/
def rowsOrderSpec : ChangeSpec := { name := "rowsOrder", fn := fun _ => fun
  | [d1, d2] => { results := [.lit (.bool true)], args := [d1, d2] }
  | _ => none }
def rowsOrderRow : OpenClaim := { program := "ytbncodabchbpjaa", sum := "ed454b593ac590ab1aad9f098c1c1b2254cc2566a89a27245ec29df9b77c4287", func := "curia/curialaw6.RowsOrder", spec := "rowsOrder", apart := false }
def RowsOrderSaid : Prop := rowsOrderRow.holds Try.pinned (OpenSpec.ofChange rowsOrderSpec)

/-- ITS FALSE NEIGHBOUR: 'it returns false'. Refute it at one input. -/
def rowsOrderWrong : ChangeSpec := { name := "rowsOrder", fn := fun _ => fun
  | [d1, d2] => { results := [.lit (.bool false)], args := [d1, d2] }
  | _ => none }
def RowsOrderWrongFalsely : Prop := rowsOrderRow.holds Try.pinned (OpenSpec.ofChange rowsOrderWrong)

/-- 'curialaw6.RowsNums': WHATEVER THE INPUT: true; the input reads as it did. -/
def rowsNumsSpec : ChangeSpec := { name := "rowsNums", fn := fun _ => fun
  | [d1, d2] => { results := [.lit (.bool true)], args := [d1, d2] }
  | _ => none }
def rowsNumsRow : OpenClaim := { program := "ytbncodabchbpjaa", sum := "ed454b593ac590ab1aad9f098c1c1b2254cc2566a89a27245ec29df9b77c4287", func := "curia/curialaw6.RowsNums", spec := "rowsNums", apart := false }
def RowsNumsSaid : Prop := rowsNumsRow.holds Try.pinned (OpenSpec.ofChange rowsNumsSpec)

/-- ITS FALSE NEIGHBOUR: 'it returns false'. Refute it at one input. -/
def rowsNumsWrong : ChangeSpec := { name := "rowsNums", fn := fun _ => fun
  | [d1, d2] => { results := [.lit (.bool false)], args := [d1, d2] }
  | _ => none }
def RowsNumsWrongFalsely : Prop := rowsNumsRow.holds Try.pinned (OpenSpec.ofChange rowsNumsWrong)

/-- 'curialaw6.RowsTake': WHATEVER THE INPUT: true; the input reads as it did. -/
def rowsTakeSpec : ChangeSpec := { name := "rowsTake", fn := fun _ => fun
  | [d] => { results := [.lit (.bool true)], args := [d] }
  | _ => none }
def rowsTakeRow : OpenClaim := { program := "ytbncodabchbpjaa", sum := "ed454b593ac590ab1aad9f098c1c1b2254cc2566a89a27245ec29df9b77c4287", func := "curia/curialaw6.RowsTake", spec := "rowsTake", apart := false }
def RowsTakeSaid : Prop := rowsTakeRow.holds Try.pinned (OpenSpec.ofChange rowsTakeSpec)

/-- ITS FALSE NEIGHBOUR: 'it returns false'. Refute it at one input. -/
def rowsTakeWrong : ChangeSpec := { name := "rowsTake", fn := fun _ => fun
  | [d] => { results := [.lit (.bool false)], args := [d] }
  | _ => none }
def RowsTakeWrongFalsely : Prop := rowsTakeRow.holds Try.pinned (OpenSpec.ofChange rowsTakeWrong)

/-- 'curialaw6.RowsBack': WHATEVER THE INPUT: true; the input reads as it did. -/
def rowsBackSpec : ChangeSpec := { name := "rowsBack", fn := fun _ => fun
  | [d1, d2, d3] => { results := [.lit (.bool true)], args := [d1, d2, d3] }
  | _ => none }
def rowsBackRow : OpenClaim := { program := "ytbncodabchbpjaa", sum := "ed454b593ac590ab1aad9f098c1c1b2254cc2566a89a27245ec29df9b77c4287", func := "curia/curialaw6.RowsBack", spec := "rowsBack", apart := false }
def RowsBackSaid : Prop := rowsBackRow.holds Try.pinned (OpenSpec.ofChange rowsBackSpec)

/-- ITS FALSE NEIGHBOUR: 'it returns false'. Refute it at one input. -/
def rowsBackWrong : ChangeSpec := { name := "rowsBack", fn := fun _ => fun
  | [d1, d2, d3] => { results := [.lit (.bool false)], args := [d1, d2, d3] }
  | _ => none }
def RowsBackWrongFalsely : Prop := rowsBackRow.holds Try.pinned (OpenSpec.ofChange rowsBackWrong)

/-- 'curialaw6.RowsOne': WHATEVER THE INPUT: true; the input reads as it did. -/
def rowsOneSpec : ChangeSpec := { name := "rowsOne", fn := fun _ => fun
  | [d] => { results := [.lit (.bool true)], args := [d] }
  | _ => none }
def rowsOneRow : OpenClaim := { program := "ytbncodabchbpjaa", sum := "ed454b593ac590ab1aad9f098c1c1b2254cc2566a89a27245ec29df9b77c4287", func := "curia/curialaw6.RowsOne", spec := "rowsOne", apart := false }
def RowsOneSaid : Prop := rowsOneRow.holds Try.pinned (OpenSpec.ofChange rowsOneSpec)

/-- ITS FALSE NEIGHBOUR: 'it returns false'. Refute it at one input. -/
def rowsOneWrong : ChangeSpec := { name := "rowsOne", fn := fun _ => fun
  | [d] => { results := [.lit (.bool false)], args := [d] }
  | _ => none }
def RowsOneWrongFalsely : Prop := rowsOneRow.holds Try.pinned (OpenSpec.ofChange rowsOneWrong)

/-- 'curialaw6.RowsOwn': WHATEVER THE INPUT: true; the input reads as it did. -/
def rowsOwnSpec : ChangeSpec := { name := "rowsOwn", fn := fun _ => fun
  | [d] => { results := [.lit (.bool true)], args := [d] }
  | _ => none }
def rowsOwnRow : OpenClaim := { program := "ytbncodabchbpjaa", sum := "ed454b593ac590ab1aad9f098c1c1b2254cc2566a89a27245ec29df9b77c4287", func := "curia/curialaw6.RowsOwn", spec := "rowsOwn", apart := false }
def RowsOwnSaid : Prop := rowsOwnRow.holds Try.pinned (OpenSpec.ofChange rowsOwnSpec)

/-- ITS FALSE NEIGHBOUR: 'it returns false'. Refute it at one input. -/
def rowsOwnWrong : ChangeSpec := { name := "rowsOwn", fn := fun _ => fun
  | [d] => { results := [.lit (.bool false)], args := [d] }
  | _ => none }
def RowsOwnWrongFalsely : Prop := rowsOwnRow.holds Try.pinned (OpenSpec.ofChange rowsOwnWrong)

/- THE SECOND FORM. 'bulk': how many values and letters a reading holds, each counted each time it is reached (what is shared counts as often as it is met; a slice's spare places count too). A statement '..UptoSaid' is the law's where the arguments, and the package variables that the reading takes, are together of bulk at most 1048576: NARROWER than '..Said'. Prove '..Said' where nothing that the law and all that it calls make is longer than what came in: it says more and counts as full. Else prove '..UptoSaid'. A law counts once. -/
mutual
def uptoBulk {H : Type} : DataW H → Nat
  | .lit (.string bytes) => bytes.length + 1
  | .lit _ => 1
  | .nil => 1
  | .ptr d => uptoBulk d + 1
  | .slice elems spare => uptoBulkAll elems + uptoBulkAll spare + 1
  | .agg parts => uptoBulkAll parts + 1
  | .iface _ d => uptoBulk d + 1
  | .map entries => uptoBulkEntries entries + 1
  | .held _ => 1
def uptoBulkAll {H : Type} : List (DataW H) → Nat
  | [] => 0
  | d :: r => uptoBulk d + uptoBulkAll r
def uptoBulkEntries {H : Type} : List (Lit × DataW H) → Nat
  | [] => 0
  | x :: r => uptoBulkEntry x + uptoBulkEntries r
def uptoBulkEntry {H : Type} : Lit × DataW H → Nat
  | (.string bytes, d) => bytes.length + uptoBulk d + 1
  | (_, d) => uptoBulk d + 1
 end
def uptoSmall : (H : Type) → List (DataW H) → Bool := fun _ ds => decide (uptoBulkAll ds ≤ 1048576)
def OpenSpec.upto (s : _root_.Go.ChangeSpec) : _root_.Go.OpenSpec := { _root_.Go.OpenSpec.ofChange s with cond := some uptoSmall }

/-- 'curialaw6.RowsPack', WHERE WHAT IT READS IS OF BULK AT MOST 1048576: true; the input reads as it did. -/
def rowsPackUptoRow : OpenClaim := { program := "ytbncodabchbpjaa", sum := "ed454b593ac590ab1aad9f098c1c1b2254cc2566a89a27245ec29df9b77c4287", func := "curia/curialaw6.RowsPack", spec := "rowsPack", apart := false, narrowed := true }
def RowsPackUptoSaid : Prop := rowsPackUptoRow.holds Try.pinned (OpenSpec.upto rowsPackSpec)

/-- 'curialaw6.RowsFull', WHERE WHAT IT READS IS OF BULK AT MOST 1048576: true; the input reads as it did. -/
def rowsFullUptoRow : OpenClaim := { program := "ytbncodabchbpjaa", sum := "ed454b593ac590ab1aad9f098c1c1b2254cc2566a89a27245ec29df9b77c4287", func := "curia/curialaw6.RowsFull", spec := "rowsFull", apart := false, narrowed := true }
def RowsFullUptoSaid : Prop := rowsFullUptoRow.holds Try.pinned (OpenSpec.upto rowsFullSpec)

/-- 'curialaw6.RowsOrder', WHERE WHAT IT READS IS OF BULK AT MOST 1048576: true; the input reads as it did. -/
def rowsOrderUptoRow : OpenClaim := { program := "ytbncodabchbpjaa", sum := "ed454b593ac590ab1aad9f098c1c1b2254cc2566a89a27245ec29df9b77c4287", func := "curia/curialaw6.RowsOrder", spec := "rowsOrder", apart := false, narrowed := true }
def RowsOrderUptoSaid : Prop := rowsOrderUptoRow.holds Try.pinned (OpenSpec.upto rowsOrderSpec)

/-- 'curialaw6.RowsNums', WHERE WHAT IT READS IS OF BULK AT MOST 1048576: true; the input reads as it did. -/
def rowsNumsUptoRow : OpenClaim := { program := "ytbncodabchbpjaa", sum := "ed454b593ac590ab1aad9f098c1c1b2254cc2566a89a27245ec29df9b77c4287", func := "curia/curialaw6.RowsNums", spec := "rowsNums", apart := false, narrowed := true }
def RowsNumsUptoSaid : Prop := rowsNumsUptoRow.holds Try.pinned (OpenSpec.upto rowsNumsSpec)

/-- 'curialaw6.RowsTake', WHERE WHAT IT READS IS OF BULK AT MOST 1048576: true; the input reads as it did. -/
def rowsTakeUptoRow : OpenClaim := { program := "ytbncodabchbpjaa", sum := "ed454b593ac590ab1aad9f098c1c1b2254cc2566a89a27245ec29df9b77c4287", func := "curia/curialaw6.RowsTake", spec := "rowsTake", apart := false, narrowed := true }
def RowsTakeUptoSaid : Prop := rowsTakeUptoRow.holds Try.pinned (OpenSpec.upto rowsTakeSpec)

/-- 'curialaw6.RowsBack', WHERE WHAT IT READS IS OF BULK AT MOST 1048576: true; the input reads as it did. -/
def rowsBackUptoRow : OpenClaim := { program := "ytbncodabchbpjaa", sum := "ed454b593ac590ab1aad9f098c1c1b2254cc2566a89a27245ec29df9b77c4287", func := "curia/curialaw6.RowsBack", spec := "rowsBack", apart := false, narrowed := true }
def RowsBackUptoSaid : Prop := rowsBackUptoRow.holds Try.pinned (OpenSpec.upto rowsBackSpec)

/-- 'curialaw6.RowsOne', WHERE WHAT IT READS IS OF BULK AT MOST 1048576: true; the input reads as it did. -/
def rowsOneUptoRow : OpenClaim := { program := "ytbncodabchbpjaa", sum := "ed454b593ac590ab1aad9f098c1c1b2254cc2566a89a27245ec29df9b77c4287", func := "curia/curialaw6.RowsOne", spec := "rowsOne", apart := false, narrowed := true }
def RowsOneUptoSaid : Prop := rowsOneUptoRow.holds Try.pinned (OpenSpec.upto rowsOneSpec)

/-- 'curialaw6.RowsOwn', WHERE WHAT IT READS IS OF BULK AT MOST 1048576: true; the input reads as it did. -/
def rowsOwnUptoRow : OpenClaim := { program := "ytbncodabchbpjaa", sum := "ed454b593ac590ab1aad9f098c1c1b2254cc2566a89a27245ec29df9b77c4287", func := "curia/curialaw6.RowsOwn", spec := "rowsOwn", apart := false, narrowed := true }
def RowsOwnUptoSaid : Prop := rowsOwnUptoRow.holds Try.pinned (OpenSpec.upto rowsOwnSpec)

end Rows
end Go.Proofs.Ytbncodabchbpjaa
