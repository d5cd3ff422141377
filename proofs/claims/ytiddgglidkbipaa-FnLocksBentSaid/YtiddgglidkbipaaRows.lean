/-
  No cell of these rows narrows 'for every input' (looked for: loops, veiled, ifaces, maps, wideKeys, modest, calm, conditions, laid).
  DERIVED. THE GIVEN ROWS OF THIS SEAT. 12 by the template 'for every input the law returns true; each argument reads behind the call as it read before'; 0 by the template 'total and deterministic' (their statements: YtiddgglidkbipaaTotals.lean).
  GIVEN WITH THE SEED: the statements are not yours to turn. If you find one false, say at which input.
  Laid BY PROGRAM, IN A SANDBOX (cutbox-rows.mjs): the forced cells as the released guide's own fill.sh prints them over the translation 56ed715ab1de99b3… (all of the seat's roots in one cut). By AI agents, Wed Nov 11 2026. No macro, syntax, notation, axiom, sorry.
-/
import Derived.Test.YtiddgglidkbipaaChecked
import GoSem.Claim
import GoSem.ClaimJoined
import GoSem.ClaimMapViews
import Derived.JoinedTies
import Derived.KernelRfl
namespace Go.Proofs.Ytiddgglidkbipaa
/- THE CELL 'sum', in the pinned program and in every row, IS THE sha256 OF THE DUMP (.gsa) THAT YtiddgglidkbipaaProg.lean LOADS. Nothing in Lean hashes anything: it is a label: what it is worth is what the hold of that sum in a sandbox is worth. -/
noncomputable def Try.pinned : Pinned := { name := "ytiddgglidkbipaa", sum := "56ed715ab1de99b3e7b59ae9f17c6de1fe292748e52b609b755aa496160b1590", checked := Try.checked }
namespace Rows
def none {H : Type} : Left H := { results := [], args := [] }

/-- 'laws.FnExactCovers': WHATEVER THE INPUT: true; the input reads as it did. -/
def fnExactCoversSpec : ChangeSpec := { name := "fnExactCovers", fn := fun _ => fun
  | [d1, d2] => { results := [.lit (.bool true)], args := [d1, d2] }
  | _ => none }
def fnExactCoversRow : OpenClaim := { program := "ytiddgglidkbipaa", sum := "56ed715ab1de99b3e7b59ae9f17c6de1fe292748e52b609b755aa496160b1590", func := "loop.example/g00452/laws.FnExactCovers", spec := "fnExactCovers", apart := false }
def FnExactCoversSaid : Prop := fnExactCoversRow.holds Try.pinned (OpenSpec.ofChange fnExactCoversSpec)

/-- ITS FALSE NEIGHBOUR: 'it returns false'. Refute it at one input. -/
def fnExactCoversWrong : ChangeSpec := { name := "fnExactCovers", fn := fun _ => fun
  | [d1, d2] => { results := [.lit (.bool false)], args := [d1, d2] }
  | _ => none }
def FnExactCoversWrongFalsely : Prop := fnExactCoversRow.holds Try.pinned (OpenSpec.ofChange fnExactCoversWrong)

/-- 'laws.FnExactLockClash': WHATEVER THE INPUT: true; the input reads as it did. -/
def fnExactLockClashSpec : ChangeSpec := { name := "fnExactLockClash", fn := fun _ => fun
  | [d1, d2] => { results := [.lit (.bool true)], args := [d1, d2] }
  | _ => none }
def fnExactLockClashRow : OpenClaim := { program := "ytiddgglidkbipaa", sum := "56ed715ab1de99b3e7b59ae9f17c6de1fe292748e52b609b755aa496160b1590", func := "loop.example/g00452/laws.FnExactLockClash", spec := "fnExactLockClash", apart := false }
def FnExactLockClashSaid : Prop := fnExactLockClashRow.holds Try.pinned (OpenSpec.ofChange fnExactLockClashSpec)

/-- ITS FALSE NEIGHBOUR: 'it returns false'. Refute it at one input. -/
def fnExactLockClashWrong : ChangeSpec := { name := "fnExactLockClash", fn := fun _ => fun
  | [d1, d2] => { results := [.lit (.bool false)], args := [d1, d2] }
  | _ => none }
def FnExactLockClashWrongFalsely : Prop := fnExactLockClashRow.holds Try.pinned (OpenSpec.ofChange fnExactLockClashWrong)

/-- 'laws.FnExactMayTurn': WHATEVER THE INPUT: true; the input reads as it did. -/
def fnExactMayTurnSpec : ChangeSpec := { name := "fnExactMayTurn", fn := fun _ => fun
  | [d1, d2, d3, d4] => { results := [.lit (.bool true)], args := [d1, d2, d3, d4] }
  | _ => none }
def fnExactMayTurnRow : OpenClaim := { program := "ytiddgglidkbipaa", sum := "56ed715ab1de99b3e7b59ae9f17c6de1fe292748e52b609b755aa496160b1590", func := "loop.example/g00452/laws.FnExactMayTurn", spec := "fnExactMayTurn", apart := false }
def FnExactMayTurnSaid : Prop := fnExactMayTurnRow.holds Try.pinned (OpenSpec.ofChange fnExactMayTurnSpec)

/-- ITS FALSE NEIGHBOUR: 'it returns false'. Refute it at one input. -/
def fnExactMayTurnWrong : ChangeSpec := { name := "fnExactMayTurn", fn := fun _ => fun
  | [d1, d2, d3, d4] => { results := [.lit (.bool false)], args := [d1, d2, d3, d4] }
  | _ => none }
def FnExactMayTurnWrongFalsely : Prop := fnExactMayTurnRow.holds Try.pinned (OpenSpec.ofChange fnExactMayTurnWrong)

/-- 'laws.FnExactDropLock': WHATEVER THE INPUT: true; the input reads as it did. -/
def fnExactDropLockSpec : ChangeSpec := { name := "fnExactDropLock", fn := fun _ => fun
  | [d1, d2] => { results := [.lit (.bool true)], args := [d1, d2] }
  | _ => none }
def fnExactDropLockRow : OpenClaim := { program := "ytiddgglidkbipaa", sum := "56ed715ab1de99b3e7b59ae9f17c6de1fe292748e52b609b755aa496160b1590", func := "loop.example/g00452/laws.FnExactDropLock", spec := "fnExactDropLock", apart := false }
def FnExactDropLockSaid : Prop := fnExactDropLockRow.holds Try.pinned (OpenSpec.ofChange fnExactDropLockSpec)

/-- ITS FALSE NEIGHBOUR: 'it returns false'. Refute it at one input. -/
def fnExactDropLockWrong : ChangeSpec := { name := "fnExactDropLock", fn := fun _ => fun
  | [d1, d2] => { results := [.lit (.bool false)], args := [d1, d2] }
  | _ => none }
def FnExactDropLockWrongFalsely : Prop := fnExactDropLockRow.holds Try.pinned (OpenSpec.ofChange fnExactDropLockWrong)

/-- 'laws.FnExactLiveLocks': WHATEVER THE INPUT: true; the input reads as it did. -/
def fnExactLiveLocksSpec : ChangeSpec := { name := "fnExactLiveLocks", fn := fun _ => fun
  | [d1, d2] => { results := [.lit (.bool true)], args := [d1, d2] }
  | _ => none }
def fnExactLiveLocksRow : OpenClaim := { program := "ytiddgglidkbipaa", sum := "56ed715ab1de99b3e7b59ae9f17c6de1fe292748e52b609b755aa496160b1590", func := "loop.example/g00452/laws.FnExactLiveLocks", spec := "fnExactLiveLocks", unfollowed := true, recurses := true, apart := false }
def FnExactLiveLocksSaid : Prop := fnExactLiveLocksRow.holds Try.pinned (OpenSpec.ofChange fnExactLiveLocksSpec)

/-- ITS FALSE NEIGHBOUR: 'it returns false'. Refute it at one input. -/
def fnExactLiveLocksWrong : ChangeSpec := { name := "fnExactLiveLocks", fn := fun _ => fun
  | [d1, d2] => { results := [.lit (.bool false)], args := [d1, d2] }
  | _ => none }
def FnExactLiveLocksWrongFalsely : Prop := fnExactLiveLocksRow.holds Try.pinned (OpenSpec.ofChange fnExactLiveLocksWrong)

/-- 'laws.FnExactTokensAt': WHATEVER THE INPUT: true; the input reads as it did. -/
def fnExactTokensAtSpec : ChangeSpec := { name := "fnExactTokensAt", fn := fun _ => fun
  | [d1, d2] => { results := [.lit (.bool true)], args := [d1, d2] }
  | _ => none }
def fnExactTokensAtRow : OpenClaim := { program := "ytiddgglidkbipaa", sum := "56ed715ab1de99b3e7b59ae9f17c6de1fe292748e52b609b755aa496160b1590", func := "loop.example/g00452/laws.FnExactTokensAt", spec := "fnExactTokensAt", apart := false }
def FnExactTokensAtSaid : Prop := fnExactTokensAtRow.holds Try.pinned (OpenSpec.ofChange fnExactTokensAtSpec)

/-- ITS FALSE NEIGHBOUR: 'it returns false'. Refute it at one input. -/
def fnExactTokensAtWrong : ChangeSpec := { name := "fnExactTokensAt", fn := fun _ => fun
  | [d1, d2] => { results := [.lit (.bool false)], args := [d1, d2] }
  | _ => none }
def FnExactTokensAtWrongFalsely : Prop := fnExactTokensAtRow.holds Try.pinned (OpenSpec.ofChange fnExactTokensAtWrong)

/-- 'laws.FnExactLockOk': WHATEVER THE INPUT: true; the input reads as it did. -/
def fnExactLockOkSpec : ChangeSpec := { name := "fnExactLockOk", fn := fun _ => fun
  | [d] => { results := [.lit (.bool true)], args := [d] }
  | _ => none }
def fnExactLockOkRow : OpenClaim := { program := "ytiddgglidkbipaa", sum := "56ed715ab1de99b3e7b59ae9f17c6de1fe292748e52b609b755aa496160b1590", func := "loop.example/g00452/laws.FnExactLockOk", spec := "fnExactLockOk", inPlace := ["internal/bytealg.IndexByteString", "internal/bytealg.IndexString"], named := ["internal/bytealg.MaxLen"], apart := false }
def FnExactLockOkSaid : Prop := fnExactLockOkRow.holds Try.pinned (OpenSpec.ofChange fnExactLockOkSpec)

/-- ITS FALSE NEIGHBOUR: 'it returns false'. Refute it at one input. -/
def fnExactLockOkWrong : ChangeSpec := { name := "fnExactLockOk", fn := fun _ => fun
  | [d] => { results := [.lit (.bool false)], args := [d] }
  | _ => none }
def FnExactLockOkWrongFalsely : Prop := fnExactLockOkRow.holds Try.pinned (OpenSpec.ofChange fnExactLockOkWrong)

/-- 'laws.FnExactLocksOk': WHATEVER THE INPUT: true; the input reads as it did. -/
def fnExactLocksOkSpec : ChangeSpec := { name := "fnExactLocksOk", fn := fun _ => fun
  | [d] => { results := [.lit (.bool true)], args := [d] }
  | _ => none }
def fnExactLocksOkRow : OpenClaim := { program := "ytiddgglidkbipaa", sum := "56ed715ab1de99b3e7b59ae9f17c6de1fe292748e52b609b755aa496160b1590", func := "loop.example/g00452/laws.FnExactLocksOk", spec := "fnExactLocksOk", inPlace := ["internal/bytealg.IndexByteString", "internal/bytealg.IndexString"], named := ["internal/bytealg.MaxLen"], apart := false }
def FnExactLocksOkSaid : Prop := fnExactLocksOkRow.holds Try.pinned (OpenSpec.ofChange fnExactLocksOkSpec)

/-- ITS FALSE NEIGHBOUR: 'it returns false'. Refute it at one input. -/
def fnExactLocksOkWrong : ChangeSpec := { name := "fnExactLocksOk", fn := fun _ => fun
  | [d] => { results := [.lit (.bool false)], args := [d] }
  | _ => none }
def FnExactLocksOkWrongFalsely : Prop := fnExactLocksOkRow.holds Try.pinned (OpenSpec.ofChange fnExactLocksOkWrong)

/-- 'laws.FnExactAddLock': WHATEVER THE INPUT: true; the input reads as it did. -/
def fnExactAddLockSpec : ChangeSpec := { name := "fnExactAddLock", fn := fun _ => fun
  | [d1, d2] => { results := [.lit (.bool true)], args := [d1, d2] }
  | _ => none }
def fnExactAddLockRow : OpenClaim := { program := "ytiddgglidkbipaa", sum := "56ed715ab1de99b3e7b59ae9f17c6de1fe292748e52b609b755aa496160b1590", func := "loop.example/g00452/laws.FnExactAddLock", spec := "fnExactAddLock", inPlace := ["internal/bytealg.IndexByteString", "internal/bytealg.IndexString"], named := ["internal/bytealg.MaxLen"], apart := false }
def FnExactAddLockSaid : Prop := fnExactAddLockRow.holds Try.pinned (OpenSpec.ofChange fnExactAddLockSpec)

/-- ITS FALSE NEIGHBOUR: 'it returns false'. Refute it at one input. -/
def fnExactAddLockWrong : ChangeSpec := { name := "fnExactAddLock", fn := fun _ => fun
  | [d1, d2] => { results := [.lit (.bool false)], args := [d1, d2] }
  | _ => none }
def FnExactAddLockWrongFalsely : Prop := fnExactAddLockRow.holds Try.pinned (OpenSpec.ofChange fnExactAddLockWrong)

/-- 'laws.FnAlone': WHATEVER THE INPUT: true; the input reads as it did. -/
def fnAloneSpec : ChangeSpec := { name := "fnAlone", fn := fun _ => fun
  | [d] => { results := [.lit (.bool true)], args := [d] }
  | _ => none }
def fnAloneRow : OpenClaim := { program := "ytiddgglidkbipaa", sum := "56ed715ab1de99b3e7b59ae9f17c6de1fe292748e52b609b755aa496160b1590", func := "loop.example/g00452/laws.FnAlone", spec := "fnAlone", inPlace := ["internal/bytealg.IndexByteString", "internal/bytealg.IndexString"], named := ["internal/bytealg.MaxLen"], apart := false }
def FnAloneSaid : Prop := fnAloneRow.holds Try.pinned (OpenSpec.ofChange fnAloneSpec)

/-- ITS FALSE NEIGHBOUR: 'it returns false'. Refute it at one input. -/
def fnAloneWrong : ChangeSpec := { name := "fnAlone", fn := fun _ => fun
  | [d] => { results := [.lit (.bool false)], args := [d] }
  | _ => none }
def FnAloneWrongFalsely : Prop := fnAloneRow.holds Try.pinned (OpenSpec.ofChange fnAloneWrong)

/-- 'laws.FnLocks': WHATEVER THE INPUT: true; the input reads as it did. -/
def fnLocksSpec : ChangeSpec := { name := "fnLocks", fn := fun _ => fun
  | [d] => { results := [.lit (.bool true)], args := [d] }
  | _ => none }
def fnLocksRow : OpenClaim := { program := "ytiddgglidkbipaa", sum := "56ed715ab1de99b3e7b59ae9f17c6de1fe292748e52b609b755aa496160b1590", func := "loop.example/g00452/laws.FnLocks", spec := "fnLocks", inPlace := ["internal/bytealg.IndexByteString", "internal/bytealg.IndexString"], named := ["internal/bytealg.MaxLen"], apart := false }
def FnLocksSaid : Prop := fnLocksRow.holds Try.pinned (OpenSpec.ofChange fnLocksSpec)

/-- ITS FALSE NEIGHBOUR: 'it returns false'. Refute it at one input. -/
def fnLocksWrong : ChangeSpec := { name := "fnLocks", fn := fun _ => fun
  | [d] => { results := [.lit (.bool false)], args := [d] }
  | _ => none }
def FnLocksWrongFalsely : Prop := fnLocksRow.holds Try.pinned (OpenSpec.ofChange fnLocksWrong)

/-- 'laws.FnLocksBent': WHATEVER THE INPUT: true; the input reads as it did. -/
def fnLocksBentSpec : ChangeSpec := { name := "fnLocksBent", fn := fun _ => fun
  | [d] => { results := [.lit (.bool true)], args := [d] }
  | _ => none }
def fnLocksBentRow : OpenClaim := { program := "ytiddgglidkbipaa", sum := "56ed715ab1de99b3e7b59ae9f17c6de1fe292748e52b609b755aa496160b1590", func := "loop.example/g00452/laws.FnLocksBent", spec := "fnLocksBent", inPlace := ["internal/bytealg.IndexByteString", "internal/bytealg.IndexString"], unfollowed := true, recurses := true, named := ["internal/bytealg.MaxLen"], apart := false }
def FnLocksBentSaid : Prop := fnLocksBentRow.holds Try.pinned (OpenSpec.ofChange fnLocksBentSpec)

/-- ITS FALSE NEIGHBOUR: 'it returns false'. Refute it at one input. -/
def fnLocksBentWrong : ChangeSpec := { name := "fnLocksBent", fn := fun _ => fun
  | [d] => { results := [.lit (.bool false)], args := [d] }
  | _ => none }
def FnLocksBentWrongFalsely : Prop := fnLocksBentRow.holds Try.pinned (OpenSpec.ofChange fnLocksBentWrong)

/- THE SECOND FORM. 'bulk': how many values and letters a reading holds, each counted each time it is reached (what is shared counts as often as it is met; a slice's spare places count too). A statement '..UptoSaid' is the law's where the arguments, and the package variables that the reading takes, are together of bulk at most 1048576: NARROWER than '..Said'. Prove '..Said' where nothing that the law and all that it calls make is longer than what came in: it says more and counts as full. Else prove '..UptoSaid'. A law counts once. -/
mutual
def uptoBulk {H : Type} : DataW H → Nat
  | .lit (.string bytes) => bytes.length + 1
  | .lit _ => 1
  | .nil => 1
  | .ptr d => uptoBulk d + 1
  | .slice elems spare => uptoBulkAll elems + uptoBulkAll spare + 1
  | .agg parts => uptoBulkAll parts + 1
  | .iface _ d => uptoBulk d + 1
  | .map entries => uptoBulkEntries entries + 1
  | .held _ => 1
def uptoBulkAll {H : Type} : List (DataW H) → Nat
  | [] => 0
  | d :: r => uptoBulk d + uptoBulkAll r
def uptoBulkEntries {H : Type} : List (Lit × DataW H) → Nat
  | [] => 0
  | x :: r => uptoBulkEntry x + uptoBulkEntries r
def uptoBulkEntry {H : Type} : Lit × DataW H → Nat
  | (.string bytes, d) => bytes.length + uptoBulk d + 1
  | (_, d) => uptoBulk d + 1
 end
def uptoSmall : (H : Type) → List (DataW H) → Bool := fun _ ds => decide (uptoBulkAll ds ≤ 1048576)
def OpenSpec.upto (s : _root_.Go.ChangeSpec) : _root_.Go.OpenSpec := { _root_.Go.OpenSpec.ofChange s with cond := some uptoSmall }

/-- 'laws.FnExactCovers', WHERE WHAT IT READS IS OF BULK AT MOST 1048576: true; the input reads as it did. -/
def fnExactCoversUptoRow : OpenClaim := { program := "ytiddgglidkbipaa", sum := "56ed715ab1de99b3e7b59ae9f17c6de1fe292748e52b609b755aa496160b1590", func := "loop.example/g00452/laws.FnExactCovers", spec := "fnExactCovers", apart := false, narrowed := true }
def FnExactCoversUptoSaid : Prop := fnExactCoversUptoRow.holds Try.pinned (OpenSpec.upto fnExactCoversSpec)

/-- 'laws.FnExactLockClash', WHERE WHAT IT READS IS OF BULK AT MOST 1048576: true; the input reads as it did. -/
def fnExactLockClashUptoRow : OpenClaim := { program := "ytiddgglidkbipaa", sum := "56ed715ab1de99b3e7b59ae9f17c6de1fe292748e52b609b755aa496160b1590", func := "loop.example/g00452/laws.FnExactLockClash", spec := "fnExactLockClash", apart := false, narrowed := true }
def FnExactLockClashUptoSaid : Prop := fnExactLockClashUptoRow.holds Try.pinned (OpenSpec.upto fnExactLockClashSpec)

/-- 'laws.FnExactMayTurn', WHERE WHAT IT READS IS OF BULK AT MOST 1048576: true; the input reads as it did. -/
def fnExactMayTurnUptoRow : OpenClaim := { program := "ytiddgglidkbipaa", sum := "56ed715ab1de99b3e7b59ae9f17c6de1fe292748e52b609b755aa496160b1590", func := "loop.example/g00452/laws.FnExactMayTurn", spec := "fnExactMayTurn", apart := false, narrowed := true }
def FnExactMayTurnUptoSaid : Prop := fnExactMayTurnUptoRow.holds Try.pinned (OpenSpec.upto fnExactMayTurnSpec)

/-- 'laws.FnExactDropLock', WHERE WHAT IT READS IS OF BULK AT MOST 1048576: true; the input reads as it did. -/
def fnExactDropLockUptoRow : OpenClaim := { program := "ytiddgglidkbipaa", sum := "56ed715ab1de99b3e7b59ae9f17c6de1fe292748e52b609b755aa496160b1590", func := "loop.example/g00452/laws.FnExactDropLock", spec := "fnExactDropLock", apart := false, narrowed := true }
def FnExactDropLockUptoSaid : Prop := fnExactDropLockUptoRow.holds Try.pinned (OpenSpec.upto fnExactDropLockSpec)

/-- 'laws.FnExactLiveLocks', WHERE WHAT IT READS IS OF BULK AT MOST 1048576: true; the input reads as it did. -/
def fnExactLiveLocksUptoRow : OpenClaim := { program := "ytiddgglidkbipaa", sum := "56ed715ab1de99b3e7b59ae9f17c6de1fe292748e52b609b755aa496160b1590", func := "loop.example/g00452/laws.FnExactLiveLocks", spec := "fnExactLiveLocks", unfollowed := true, recurses := true, apart := false, narrowed := true }
def FnExactLiveLocksUptoSaid : Prop := fnExactLiveLocksUptoRow.holds Try.pinned (OpenSpec.upto fnExactLiveLocksSpec)

/-- 'laws.FnExactTokensAt', WHERE WHAT IT READS IS OF BULK AT MOST 1048576: true; the input reads as it did. -/
def fnExactTokensAtUptoRow : OpenClaim := { program := "ytiddgglidkbipaa", sum := "56ed715ab1de99b3e7b59ae9f17c6de1fe292748e52b609b755aa496160b1590", func := "loop.example/g00452/laws.FnExactTokensAt", spec := "fnExactTokensAt", apart := false, narrowed := true }
def FnExactTokensAtUptoSaid : Prop := fnExactTokensAtUptoRow.holds Try.pinned (OpenSpec.upto fnExactTokensAtSpec)

/-- 'laws.FnExactLockOk', WHERE WHAT IT READS IS OF BULK AT MOST 1048576: true; the input reads as it did. -/
def fnExactLockOkUptoRow : OpenClaim := { program := "ytiddgglidkbipaa", sum := "56ed715ab1de99b3e7b59ae9f17c6de1fe292748e52b609b755aa496160b1590", func := "loop.example/g00452/laws.FnExactLockOk", spec := "fnExactLockOk", inPlace := ["internal/bytealg.IndexByteString", "internal/bytealg.IndexString"], named := ["internal/bytealg.MaxLen"], apart := false, narrowed := true }
def FnExactLockOkUptoSaid : Prop := fnExactLockOkUptoRow.holds Try.pinned (OpenSpec.upto fnExactLockOkSpec)

/-- 'laws.FnExactLocksOk', WHERE WHAT IT READS IS OF BULK AT MOST 1048576: true; the input reads as it did. -/
def fnExactLocksOkUptoRow : OpenClaim := { program := "ytiddgglidkbipaa", sum := "56ed715ab1de99b3e7b59ae9f17c6de1fe292748e52b609b755aa496160b1590", func := "loop.example/g00452/laws.FnExactLocksOk", spec := "fnExactLocksOk", inPlace := ["internal/bytealg.IndexByteString", "internal/bytealg.IndexString"], named := ["internal/bytealg.MaxLen"], apart := false, narrowed := true }
def FnExactLocksOkUptoSaid : Prop := fnExactLocksOkUptoRow.holds Try.pinned (OpenSpec.upto fnExactLocksOkSpec)

/-- 'laws.FnExactAddLock', WHERE WHAT IT READS IS OF BULK AT MOST 1048576: true; the input reads as it did. -/
def fnExactAddLockUptoRow : OpenClaim := { program := "ytiddgglidkbipaa", sum := "56ed715ab1de99b3e7b59ae9f17c6de1fe292748e52b609b755aa496160b1590", func := "loop.example/g00452/laws.FnExactAddLock", spec := "fnExactAddLock", inPlace := ["internal/bytealg.IndexByteString", "internal/bytealg.IndexString"], named := ["internal/bytealg.MaxLen"], apart := false, narrowed := true }
def FnExactAddLockUptoSaid : Prop := fnExactAddLockUptoRow.holds Try.pinned (OpenSpec.upto fnExactAddLockSpec)

/-- 'laws.FnAlone', WHERE WHAT IT READS IS OF BULK AT MOST 1048576: true; the input reads as it did. -/
def fnAloneUptoRow : OpenClaim := { program := "ytiddgglidkbipaa", sum := "56ed715ab1de99b3e7b59ae9f17c6de1fe292748e52b609b755aa496160b1590", func := "loop.example/g00452/laws.FnAlone", spec := "fnAlone", inPlace := ["internal/bytealg.IndexByteString", "internal/bytealg.IndexString"], named := ["internal/bytealg.MaxLen"], apart := false, narrowed := true }
def FnAloneUptoSaid : Prop := fnAloneUptoRow.holds Try.pinned (OpenSpec.upto fnAloneSpec)

/-- 'laws.FnLocks', WHERE WHAT IT READS IS OF BULK AT MOST 1048576: true; the input reads as it did. -/
def fnLocksUptoRow : OpenClaim := { program := "ytiddgglidkbipaa", sum := "56ed715ab1de99b3e7b59ae9f17c6de1fe292748e52b609b755aa496160b1590", func := "loop.example/g00452/laws.FnLocks", spec := "fnLocks", inPlace := ["internal/bytealg.IndexByteString", "internal/bytealg.IndexString"], named := ["internal/bytealg.MaxLen"], apart := false, narrowed := true }
def FnLocksUptoSaid : Prop := fnLocksUptoRow.holds Try.pinned (OpenSpec.upto fnLocksSpec)

/-- 'laws.FnLocksBent', WHERE WHAT IT READS IS OF BULK AT MOST 1048576: true; the input reads as it did. -/
def fnLocksBentUptoRow : OpenClaim := { program := "ytiddgglidkbipaa", sum := "56ed715ab1de99b3e7b59ae9f17c6de1fe292748e52b609b755aa496160b1590", func := "loop.example/g00452/laws.FnLocksBent", spec := "fnLocksBent", inPlace := ["internal/bytealg.IndexByteString", "internal/bytealg.IndexString"], unfollowed := true, recurses := true, named := ["internal/bytealg.MaxLen"], apart := false, narrowed := true }
def FnLocksBentUptoSaid : Prop := fnLocksBentUptoRow.holds Try.pinned (OpenSpec.upto fnLocksBentSpec)

end Rows
end Go.Proofs.Ytiddgglidkbipaa
