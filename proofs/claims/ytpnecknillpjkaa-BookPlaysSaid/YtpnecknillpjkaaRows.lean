/-
  No cell of these rows narrows 'for every input' (looked for: loops, veiled, ifaces, maps, wideKeys, modest, calm, conditions, laid).
  DERIVED. THE GIVEN ROWS OF THIS SEAT. 9 by the template 'for every input the law returns true; each argument reads behind the call as it read before'; 0 by the template 'total and deterministic' (their statements: YtpnecknillpjkaaTotals.lean).
  GIVEN WITH THE SEED: the statements are not yours to turn. If you find one false, say at which input.
  Laid BY PROGRAM, IN A SANDBOX (cutbox-rows.mjs): the forced cells as the released guide's own fill.sh prints them over the translation e9e381fceba73b47… (all of the seat's roots in one cut). By AI agents, Wed Nov 11 2026. No macro, syntax, notation, axiom, sorry.
-/
import Derived.Test.YtpnecknillpjkaaChecked
import GoSem.Claim
import GoSem.ClaimJoined
import GoSem.ClaimMapViews
import Derived.JoinedTies
import Derived.KernelRfl
namespace Go.Proofs.Ytpnecknillpjkaa
/- THE CELL 'sum', in the pinned program and in every row, IS THE sha256 OF THE DUMP (.gsa) THAT YtpnecknillpjkaaProg.lean LOADS. Nothing in Lean hashes anything: it is a label: what it is worth is what the hold of that sum in a sandbox is worth. -/
noncomputable def Try.pinned : Pinned := { name := "ytpnecknillpjkaa", sum := "e9e381fceba73b47b1fc087e764d3febdced62941158aa8d648cf25d259f17f8", checked := Try.checked }
namespace Rows
def none {H : Type} : Left H := { results := [], args := [] }

/-- 'curialaw11.BookFull': WHATEVER THE INPUT: true; the input reads as it did. -/
def bookFullSpec : ChangeSpec := { name := "bookFull", fn := fun _ => fun
  | [d] => { results := [.lit (.bool true)], args := [d] }
  | _ => none }
def bookFullRow : OpenClaim := { program := "ytpnecknillpjkaa", sum := "e9e381fceba73b47b1fc087e764d3febdced62941158aa8d648cf25d259f17f8", func := "curia/curialaw11.BookFull", spec := "bookFull", unfollowed := true, recurses := true, apart := false }
def BookFullSaid : Prop := bookFullRow.holds Try.pinned (OpenSpec.ofChange bookFullSpec)

/-- ITS FALSE NEIGHBOUR: 'it returns false'. Refute it at one input. -/
def bookFullWrong : ChangeSpec := { name := "bookFull", fn := fun _ => fun
  | [d] => { results := [.lit (.bool false)], args := [d] }
  | _ => none }
def BookFullWrongFalsely : Prop := bookFullRow.holds Try.pinned (OpenSpec.ofChange bookFullWrong)

/-- 'curialaw11.BookSame': WHATEVER THE INPUT: true; the input reads as it did. -/
def bookSameSpec : ChangeSpec := { name := "bookSame", fn := fun _ => fun
  | [d1, d2, d3] => { results := [.lit (.bool true)], args := [d1, d2, d3] }
  | _ => none }
def bookSameRow : OpenClaim := { program := "ytpnecknillpjkaa", sum := "e9e381fceba73b47b1fc087e764d3febdced62941158aa8d648cf25d259f17f8", func := "curia/curialaw11.BookSame", spec := "bookSame", inPlace := ["sync/atomic.LoadInt64"], unfollowed := true, recurses := true, apart := false }
def BookSameSaid : Prop := bookSameRow.holds Try.pinned (OpenSpec.ofChange bookSameSpec)

/-- ITS FALSE NEIGHBOUR: 'it returns false'. Refute it at one input. -/
def bookSameWrong : ChangeSpec := { name := "bookSame", fn := fun _ => fun
  | [d1, d2, d3] => { results := [.lit (.bool false)], args := [d1, d2, d3] }
  | _ => none }
def BookSameWrongFalsely : Prop := bookSameRow.holds Try.pinned (OpenSpec.ofChange bookSameWrong)

/-- 'curialaw11.BookOrder': WHATEVER THE INPUT: true; the input reads as it did. -/
def bookOrderSpec : ChangeSpec := { name := "bookOrder", fn := fun _ => fun
  | [d1, d2] => { results := [.lit (.bool true)], args := [d1, d2] }
  | _ => none }
def bookOrderRow : OpenClaim := { program := "ytpnecknillpjkaa", sum := "e9e381fceba73b47b1fc087e764d3febdced62941158aa8d648cf25d259f17f8", func := "curia/curialaw11.BookOrder", spec := "bookOrder", inPlace := ["sync/atomic.LoadInt64", "sync/atomic.StoreInt64"], unfollowed := true, recurses := true, apart := false }
def BookOrderSaid : Prop := bookOrderRow.holds Try.pinned (OpenSpec.ofChange bookOrderSpec)

/-- ITS FALSE NEIGHBOUR: 'it returns false'. Refute it at one input. -/
def bookOrderWrong : ChangeSpec := { name := "bookOrder", fn := fun _ => fun
  | [d1, d2] => { results := [.lit (.bool false)], args := [d1, d2] }
  | _ => none }
def BookOrderWrongFalsely : Prop := bookOrderRow.holds Try.pinned (OpenSpec.ofChange bookOrderWrong)

/-- 'curialaw11.BookCopy': WHATEVER THE INPUT: true; the input reads as it did. -/
def bookCopySpec : ChangeSpec := { name := "bookCopy", fn := fun _ => fun
  | [d1, d2] => { results := [.lit (.bool true)], args := [d1, d2] }
  | _ => none }
def bookCopyRow : OpenClaim := { program := "ytpnecknillpjkaa", sum := "e9e381fceba73b47b1fc087e764d3febdced62941158aa8d648cf25d259f17f8", func := "curia/curialaw11.BookCopy", spec := "bookCopy", inPlace := ["sync/atomic.LoadInt64", "sync/atomic.StoreInt64"], unfollowed := true, recurses := true, apart := false }
def BookCopySaid : Prop := bookCopyRow.holds Try.pinned (OpenSpec.ofChange bookCopySpec)

/-- ITS FALSE NEIGHBOUR: 'it returns false'. Refute it at one input. -/
def bookCopyWrong : ChangeSpec := { name := "bookCopy", fn := fun _ => fun
  | [d1, d2] => { results := [.lit (.bool false)], args := [d1, d2] }
  | _ => none }
def BookCopyWrongFalsely : Prop := bookCopyRow.holds Try.pinned (OpenSpec.ofChange bookCopyWrong)

/-- 'curialaw11.BookPlays': WHATEVER THE INPUT: true; the input reads as it did. -/
def bookPlaysSpec : ChangeSpec := { name := "bookPlays", fn := fun _ => fun
  | [d] => { results := [.lit (.bool true)], args := [d] }
  | _ => none }
def bookPlaysRow : OpenClaim := { program := "ytpnecknillpjkaa", sum := "e9e381fceba73b47b1fc087e764d3febdced62941158aa8d648cf25d259f17f8", func := "curia/curialaw11.BookPlays", spec := "bookPlays", inPlace := ["sync/atomic.StoreInt64", "sync/atomic.AddInt64", "sync/atomic.LoadInt64"], unfollowed := true, recurses := true, apart := false }
def BookPlaysSaid : Prop := bookPlaysRow.holds Try.pinned (OpenSpec.ofChange bookPlaysSpec)

/-- ITS FALSE NEIGHBOUR: 'it returns false'. Refute it at one input. -/
def bookPlaysWrong : ChangeSpec := { name := "bookPlays", fn := fun _ => fun
  | [d] => { results := [.lit (.bool false)], args := [d] }
  | _ => none }
def BookPlaysWrongFalsely : Prop := bookPlaysRow.holds Try.pinned (OpenSpec.ofChange bookPlaysWrong)

/-- 'curialaw11.BookLocks': WHATEVER THE INPUT: true; the input reads as it did. -/
def bookLocksSpec : ChangeSpec := { name := "bookLocks", fn := fun _ => fun
  | [d1, d2, d3] => { results := [.lit (.bool true)], args := [d1, d2, d3] }
  | _ => none }
def bookLocksRow : OpenClaim := { program := "ytpnecknillpjkaa", sum := "e9e381fceba73b47b1fc087e764d3febdced62941158aa8d648cf25d259f17f8", func := "curia/curialaw11.BookLocks", spec := "bookLocks", inPlace := ["sync/atomic.StoreInt64", "sync/atomic.AddInt64", "sync/atomic.LoadInt64"], unfollowed := true, recurses := true, apart := false }
def BookLocksSaid : Prop := bookLocksRow.holds Try.pinned (OpenSpec.ofChange bookLocksSpec)

/-- ITS FALSE NEIGHBOUR: 'it returns false'. Refute it at one input. -/
def bookLocksWrong : ChangeSpec := { name := "bookLocks", fn := fun _ => fun
  | [d1, d2, d3] => { results := [.lit (.bool false)], args := [d1, d2, d3] }
  | _ => none }
def BookLocksWrongFalsely : Prop := bookLocksRow.holds Try.pinned (OpenSpec.ofChange bookLocksWrong)

/-- 'curialaw11.BookCrashes': WHATEVER THE INPUT: true; the input reads as it did. -/
def bookCrashesSpec : ChangeSpec := { name := "bookCrashes", fn := fun _ => fun
  | [d1, d2, d3] => { results := [.lit (.bool true)], args := [d1, d2, d3] }
  | _ => none }
def bookCrashesRow : OpenClaim := { program := "ytpnecknillpjkaa", sum := "e9e381fceba73b47b1fc087e764d3febdced62941158aa8d648cf25d259f17f8", func := "curia/curialaw11.BookCrashes", spec := "bookCrashes", inPlace := ["sync/atomic.StoreInt64", "sync/atomic.AddInt64", "sync/atomic.LoadInt64"], unfollowed := true, recurses := true, apart := false }
def BookCrashesSaid : Prop := bookCrashesRow.holds Try.pinned (OpenSpec.ofChange bookCrashesSpec)

/-- ITS FALSE NEIGHBOUR: 'it returns false'. Refute it at one input. -/
def bookCrashesWrong : ChangeSpec := { name := "bookCrashes", fn := fun _ => fun
  | [d1, d2, d3] => { results := [.lit (.bool false)], args := [d1, d2, d3] }
  | _ => none }
def BookCrashesWrongFalsely : Prop := bookCrashesRow.holds Try.pinned (OpenSpec.ofChange bookCrashesWrong)

/-- 'curialaw11.BookMany': WHATEVER THE INPUT: true; the input reads as it did. -/
def bookManySpec : ChangeSpec := { name := "bookMany", fn := fun _ => fun
  | [d1, d2] => { results := [.lit (.bool true)], args := [d1, d2] }
  | _ => none }
def bookManyRow : OpenClaim := { program := "ytpnecknillpjkaa", sum := "e9e381fceba73b47b1fc087e764d3febdced62941158aa8d648cf25d259f17f8", func := "curia/curialaw11.BookMany", spec := "bookMany", inPlace := ["sync/atomic.StoreInt64", "sync/atomic.AddInt64", "sync/atomic.LoadInt64"], unfollowed := true, recurses := true, apart := false }
def BookManySaid : Prop := bookManyRow.holds Try.pinned (OpenSpec.ofChange bookManySpec)

/-- ITS FALSE NEIGHBOUR: 'it returns false'. Refute it at one input. -/
def bookManyWrong : ChangeSpec := { name := "bookMany", fn := fun _ => fun
  | [d1, d2] => { results := [.lit (.bool false)], args := [d1, d2] }
  | _ => none }
def BookManyWrongFalsely : Prop := bookManyRow.holds Try.pinned (OpenSpec.ofChange bookManyWrong)

/-- 'curialaw11.BookOfNothing': WHATEVER THE INPUT: true; the input reads as it did. -/
def bookOfNothingSpec : ChangeSpec := { name := "bookOfNothing", fn := fun _ => fun
  | [d1, d2] => { results := [.lit (.bool true)], args := [d1, d2] }
  | _ => none }
def bookOfNothingRow : OpenClaim := { program := "ytpnecknillpjkaa", sum := "e9e381fceba73b47b1fc087e764d3febdced62941158aa8d648cf25d259f17f8", func := "curia/curialaw11.BookOfNothing", spec := "bookOfNothing", inPlace := ["sync/atomic.StoreInt64", "sync/atomic.AddInt64", "sync/atomic.LoadInt64"], unfollowed := true, recurses := true, apart := false }
def BookOfNothingSaid : Prop := bookOfNothingRow.holds Try.pinned (OpenSpec.ofChange bookOfNothingSpec)

/-- ITS FALSE NEIGHBOUR: 'it returns false'. Refute it at one input. -/
def bookOfNothingWrong : ChangeSpec := { name := "bookOfNothing", fn := fun _ => fun
  | [d1, d2] => { results := [.lit (.bool false)], args := [d1, d2] }
  | _ => none }
def BookOfNothingWrongFalsely : Prop := bookOfNothingRow.holds Try.pinned (OpenSpec.ofChange bookOfNothingWrong)

/- THE SECOND FORM. 'bulk': how many values and letters a reading holds, each counted each time it is reached (what is shared counts as often as it is met; a slice's spare places count too). A statement '..UptoSaid' is the law's where the arguments, and the package variables that the reading takes, are together of bulk at most 1048576: NARROWER than '..Said'. Prove '..Said' where nothing that the law and all that it calls make is longer than what came in: it says more and counts as full. Else prove '..UptoSaid'. A law counts once. -/
mutual
def uptoBulk {H : Type} : DataW H → Nat
  | .lit (.string bytes) => bytes.length + 1
  | .lit _ => 1
  | .nil => 1
  | .ptr d => uptoBulk d + 1
  | .slice elems spare => uptoBulkAll elems + uptoBulkAll spare + 1
  | .agg parts => uptoBulkAll parts + 1
  | .iface _ d => uptoBulk d + 1
  | .map entries => uptoBulkEntries entries + 1
  | .held _ => 1
def uptoBulkAll {H : Type} : List (DataW H) → Nat
  | [] => 0
  | d :: r => uptoBulk d + uptoBulkAll r
def uptoBulkEntries {H : Type} : List (Lit × DataW H) → Nat
  | [] => 0
  | x :: r => uptoBulkEntry x + uptoBulkEntries r
def uptoBulkEntry {H : Type} : Lit × DataW H → Nat
  | (.string bytes, d) => bytes.length + uptoBulk d + 1
  | (_, d) => uptoBulk d + 1
 end
def uptoSmall : (H : Type) → List (DataW H) → Bool := fun _ ds => decide (uptoBulkAll ds ≤ 1048576)
def OpenSpec.upto (s : _root_.Go.ChangeSpec) : _root_.Go.OpenSpec := { _root_.Go.OpenSpec.ofChange s with cond := some uptoSmall }

/-- 'curialaw11.BookFull', WHERE WHAT IT READS IS OF BULK AT MOST 1048576: true; the input reads as it did. -/
def bookFullUptoRow : OpenClaim := { program := "ytpnecknillpjkaa", sum := "e9e381fceba73b47b1fc087e764d3febdced62941158aa8d648cf25d259f17f8", func := "curia/curialaw11.BookFull", spec := "bookFull", unfollowed := true, recurses := true, apart := false, narrowed := true }
def BookFullUptoSaid : Prop := bookFullUptoRow.holds Try.pinned (OpenSpec.upto bookFullSpec)

/-- 'curialaw11.BookSame', WHERE WHAT IT READS IS OF BULK AT MOST 1048576: true; the input reads as it did. -/
def bookSameUptoRow : OpenClaim := { program := "ytpnecknillpjkaa", sum := "e9e381fceba73b47b1fc087e764d3febdced62941158aa8d648cf25d259f17f8", func := "curia/curialaw11.BookSame", spec := "bookSame", inPlace := ["sync/atomic.LoadInt64"], unfollowed := true, recurses := true, apart := false, narrowed := true }
def BookSameUptoSaid : Prop := bookSameUptoRow.holds Try.pinned (OpenSpec.upto bookSameSpec)

/-- 'curialaw11.BookOrder', WHERE WHAT IT READS IS OF BULK AT MOST 1048576: true; the input reads as it did. -/
def bookOrderUptoRow : OpenClaim := { program := "ytpnecknillpjkaa", sum := "e9e381fceba73b47b1fc087e764d3febdced62941158aa8d648cf25d259f17f8", func := "curia/curialaw11.BookOrder", spec := "bookOrder", inPlace := ["sync/atomic.LoadInt64", "sync/atomic.StoreInt64"], unfollowed := true, recurses := true, apart := false, narrowed := true }
def BookOrderUptoSaid : Prop := bookOrderUptoRow.holds Try.pinned (OpenSpec.upto bookOrderSpec)

/-- 'curialaw11.BookCopy', WHERE WHAT IT READS IS OF BULK AT MOST 1048576: true; the input reads as it did. -/
def bookCopyUptoRow : OpenClaim := { program := "ytpnecknillpjkaa", sum := "e9e381fceba73b47b1fc087e764d3febdced62941158aa8d648cf25d259f17f8", func := "curia/curialaw11.BookCopy", spec := "bookCopy", inPlace := ["sync/atomic.LoadInt64", "sync/atomic.StoreInt64"], unfollowed := true, recurses := true, apart := false, narrowed := true }
def BookCopyUptoSaid : Prop := bookCopyUptoRow.holds Try.pinned (OpenSpec.upto bookCopySpec)

/-- 'curialaw11.BookPlays', WHERE WHAT IT READS IS OF BULK AT MOST 1048576: true; the input reads as it did. -/
def bookPlaysUptoRow : OpenClaim := { program := "ytpnecknillpjkaa", sum := "e9e381fceba73b47b1fc087e764d3febdced62941158aa8d648cf25d259f17f8", func := "curia/curialaw11.BookPlays", spec := "bookPlays", inPlace := ["sync/atomic.StoreInt64", "sync/atomic.AddInt64", "sync/atomic.LoadInt64"], unfollowed := true, recurses := true, apart := false, narrowed := true }
def BookPlaysUptoSaid : Prop := bookPlaysUptoRow.holds Try.pinned (OpenSpec.upto bookPlaysSpec)

/-- 'curialaw11.BookLocks', WHERE WHAT IT READS IS OF BULK AT MOST 1048576: true; the input reads as it did. -/
def bookLocksUptoRow : OpenClaim := { program := "ytpnecknillpjkaa", sum := "e9e381fceba73b47b1fc087e764d3febdced62941158aa8d648cf25d259f17f8", func := "curia/curialaw11.BookLocks", spec := "bookLocks", inPlace := ["sync/atomic.StoreInt64", "sync/atomic.AddInt64", "sync/atomic.LoadInt64"], unfollowed := true, recurses := true, apart := false, narrowed := true }
def BookLocksUptoSaid : Prop := bookLocksUptoRow.holds Try.pinned (OpenSpec.upto bookLocksSpec)

/-- 'curialaw11.BookCrashes', WHERE WHAT IT READS IS OF BULK AT MOST 1048576: true; the input reads as it did. -/
def bookCrashesUptoRow : OpenClaim := { program := "ytpnecknillpjkaa", sum := "e9e381fceba73b47b1fc087e764d3febdced62941158aa8d648cf25d259f17f8", func := "curia/curialaw11.BookCrashes", spec := "bookCrashes", inPlace := ["sync/atomic.StoreInt64", "sync/atomic.AddInt64", "sync/atomic.LoadInt64"], unfollowed := true, recurses := true, apart := false, narrowed := true }
def BookCrashesUptoSaid : Prop := bookCrashesUptoRow.holds Try.pinned (OpenSpec.upto bookCrashesSpec)

/-- 'curialaw11.BookMany', WHERE WHAT IT READS IS OF BULK AT MOST 1048576: true; the input reads as it did. -/
def bookManyUptoRow : OpenClaim := { program := "ytpnecknillpjkaa", sum := "e9e381fceba73b47b1fc087e764d3febdced62941158aa8d648cf25d259f17f8", func := "curia/curialaw11.BookMany", spec := "bookMany", inPlace := ["sync/atomic.StoreInt64", "sync/atomic.AddInt64", "sync/atomic.LoadInt64"], unfollowed := true, recurses := true, apart := false, narrowed := true }
def BookManyUptoSaid : Prop := bookManyUptoRow.holds Try.pinned (OpenSpec.upto bookManySpec)

/-- 'curialaw11.BookOfNothing', WHERE WHAT IT READS IS OF BULK AT MOST 1048576: true; the input reads as it did. -/
def bookOfNothingUptoRow : OpenClaim := { program := "ytpnecknillpjkaa", sum := "e9e381fceba73b47b1fc087e764d3febdced62941158aa8d648cf25d259f17f8", func := "curia/curialaw11.BookOfNothing", spec := "bookOfNothing", inPlace := ["sync/atomic.StoreInt64", "sync/atomic.AddInt64", "sync/atomic.LoadInt64"], unfollowed := true, recurses := true, apart := false, narrowed := true }
def BookOfNothingUptoSaid : Prop := bookOfNothingUptoRow.holds Try.pinned (OpenSpec.upto bookOfNothingSpec)

end Rows
end Go.Proofs.Ytpnecknillpjkaa
