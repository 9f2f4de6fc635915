/-
  No cell of these rows narrows 'for every input' (looked for: loops, veiled, ifaces, maps, wideKeys, modest, calm, conditions, laid).
  DERIVED. THE GIVEN ROWS OF THIS SEAT. 14 by the template 'for every input the law returns true; each argument reads behind the call as it read before'; 0 by the template 'total and deterministic' (their statements: YtclejblcnfaeaaaGreatTotals.lean).
  GIVEN WITH THE SEED: the statements are not yours to turn. If you find one false, say at which input.
  Laid BY PROGRAM, IN A SANDBOX (cutbox-rows.mjs): the forced cells as the released guide's own fill.sh prints them over the translation eecdf6295904f5fe… (all of the seat's roots in one cut). By AI agents, Wed Nov 11 2026. No macro, syntax, notation, axiom, sorry.
-/
import Derived.Test.YtclejblcnfaeaaaGreatChecked
import GoSem.Claim
import GoSem.ClaimJoined
import GoSem.ClaimMapViews
import Derived.JoinedTies
import Derived.KernelRfl
namespace Go.Proofs.YtclejblcnfaeaaaGreat
/- THE CELL 'sum', in the pinned program and in every row, IS THE sha256 OF THE DUMP (.gsa) THAT YtclejblcnfaeaaaGreatProg.lean LOADS. Nothing in Lean hashes anything: it is a label: what it is worth is what the hold of that sum in a sandbox is worth. -/
noncomputable def Tryz.pinned : Pinned := { name := "ytclejblcnfaeaaagreat", sum := "eecdf6295904f5fe7d07304d96081b6a0664c2465f4b4995119e6fda1bff7065", checked := Tryz.checked }
namespace Rows
def none {H : Type} : Left H := { results := [], args := [] }

/-- 'palfreylaw12.TollChecks': WHATEVER THE INPUT: true; the input reads as it did. -/
def tollChecksSpec : ChangeSpec := { name := "tollChecks", fn := fun _ => fun
  | [d1, d2, d3, d4, d5, d6, d7] => { results := [.lit (.bool true)], args := [d1, d2, d3, d4, d5, d6, d7] }
  | _ => none }
def tollChecksRow : OpenClaim := { program := "ytclejblcnfaeaaagreat", sum := "eecdf6295904f5fe7d07304d96081b6a0664c2465f4b4995119e6fda1bff7065", func := "palfrey/palfreylaw12.TollChecks", spec := "tollChecks", inPlace := ["internal/bytealg.IndexByteString", "internal/bytealg.IndexString", "(*sync.WaitGroup).Add", "internal/race.ReleaseMerge", "internal/race.Disable", "internal/race.Enable", "internal/synctest.IsInBubble", "internal/synctest.Associate[sync.WaitGroup]", "sync.fatal", "sync/atomic.OrUint64", "sync/atomic.AddUint64", "internal/race.Read", "sync/atomic.LoadUint64", "sync/atomic.StoreUint64", "internal/synctest.Disassociate[sync.WaitGroup]", "sync.runtime_Semrelease", "(*sync.WaitGroup).Done", "(*sync.WaitGroup).Wait", "internal/race.Acquire", "internal/synctest.IsAssociated[sync.WaitGroup]", "sync/atomic.CompareAndSwapUint64", "internal/race.Write", "sync.runtime_SemacquireWaitGroup"], unfollowed := true, recurses := true, named := ["internal/bytealg.MaxLen"], plainKeys := false, leaving := true, apart := false }
def TollChecksSaid : Prop := tollChecksRow.holds Tryz.pinned (OpenSpec.ofChange tollChecksSpec)

/-- ITS FALSE NEIGHBOUR: 'it returns false'. Refute it at one input. -/
def tollChecksWrong : ChangeSpec := { name := "tollChecks", fn := fun _ => fun
  | [d1, d2, d3, d4, d5, d6, d7] => { results := [.lit (.bool false)], args := [d1, d2, d3, d4, d5, d6, d7] }
  | _ => none }
def TollChecksWrongFalsely : Prop := tollChecksRow.holds Tryz.pinned (OpenSpec.ofChange tollChecksWrong)

/-- 'palfreylaw12.TollJoins': WHATEVER THE INPUT: true; the input reads as it did. -/
def tollJoinsSpec : ChangeSpec := { name := "tollJoins", fn := fun _ => fun
  | [d1, d2, d3, d4, d5] => { results := [.lit (.bool true)], args := [d1, d2, d3, d4, d5] }
  | _ => none }
def tollJoinsRow : OpenClaim := { program := "ytclejblcnfaeaaagreat", sum := "eecdf6295904f5fe7d07304d96081b6a0664c2465f4b4995119e6fda1bff7065", func := "palfrey/palfreylaw12.TollJoins", spec := "tollJoins", inPlace := ["internal/bytealg.IndexByteString", "internal/bytealg.IndexString", "(*sync.WaitGroup).Add", "internal/race.ReleaseMerge", "internal/race.Disable", "internal/race.Enable", "internal/synctest.IsInBubble", "internal/synctest.Associate[sync.WaitGroup]", "sync.fatal", "sync/atomic.OrUint64", "sync/atomic.AddUint64", "internal/race.Read", "sync/atomic.LoadUint64", "sync/atomic.StoreUint64", "internal/synctest.Disassociate[sync.WaitGroup]", "sync.runtime_Semrelease", "(*sync.WaitGroup).Done", "(*sync.WaitGroup).Wait", "internal/race.Acquire", "internal/synctest.IsAssociated[sync.WaitGroup]", "sync/atomic.CompareAndSwapUint64", "internal/race.Write", "sync.runtime_SemacquireWaitGroup"], unfollowed := true, recurses := true, named := ["internal/bytealg.MaxLen"], plainKeys := false, leaving := true, apart := false }
def TollJoinsSaid : Prop := tollJoinsRow.holds Tryz.pinned (OpenSpec.ofChange tollJoinsSpec)

/-- ITS FALSE NEIGHBOUR: 'it returns false'. Refute it at one input. -/
def tollJoinsWrong : ChangeSpec := { name := "tollJoins", fn := fun _ => fun
  | [d1, d2, d3, d4, d5] => { results := [.lit (.bool false)], args := [d1, d2, d3, d4, d5] }
  | _ => none }
def TollJoinsWrongFalsely : Prop := tollJoinsRow.holds Tryz.pinned (OpenSpec.ofChange tollJoinsWrong)

/-- 'palfreylaw12.TollStrucks': WHATEVER THE INPUT: true; the input reads as it did. -/
def tollStrucksSpec : ChangeSpec := { name := "tollStrucks", fn := fun _ => fun
  | [d1, d2, d3, d4, d5] => { results := [.lit (.bool true)], args := [d1, d2, d3, d4, d5] }
  | _ => none }
def tollStrucksRow : OpenClaim := { program := "ytclejblcnfaeaaagreat", sum := "eecdf6295904f5fe7d07304d96081b6a0664c2465f4b4995119e6fda1bff7065", func := "palfrey/palfreylaw12.TollStrucks", spec := "tollStrucks", inPlace := ["internal/bytealg.IndexByteString", "internal/bytealg.IndexString", "(*sync.WaitGroup).Add", "internal/race.ReleaseMerge", "internal/race.Disable", "internal/race.Enable", "internal/synctest.IsInBubble", "internal/synctest.Associate[sync.WaitGroup]", "sync.fatal", "sync/atomic.OrUint64", "sync/atomic.AddUint64", "internal/race.Read", "sync/atomic.LoadUint64", "sync/atomic.StoreUint64", "internal/synctest.Disassociate[sync.WaitGroup]", "sync.runtime_Semrelease", "(*sync.WaitGroup).Done", "(*sync.WaitGroup).Wait", "internal/race.Acquire", "internal/synctest.IsAssociated[sync.WaitGroup]", "sync/atomic.CompareAndSwapUint64", "internal/race.Write", "sync.runtime_SemacquireWaitGroup"], unfollowed := true, recurses := true, named := ["internal/bytealg.MaxLen"], plainKeys := false, leaving := true, apart := false }
def TollStrucksSaid : Prop := tollStrucksRow.holds Tryz.pinned (OpenSpec.ofChange tollStrucksSpec)

/-- ITS FALSE NEIGHBOUR: 'it returns false'. Refute it at one input. -/
def tollStrucksWrong : ChangeSpec := { name := "tollStrucks", fn := fun _ => fun
  | [d1, d2, d3, d4, d5] => { results := [.lit (.bool false)], args := [d1, d2, d3, d4, d5] }
  | _ => none }
def TollStrucksWrongFalsely : Prop := tollStrucksRow.holds Tryz.pinned (OpenSpec.ofChange tollStrucksWrong)

/-- 'palfreylaw12.TollItself': WHATEVER THE INPUT: true; the input reads as it did. -/
def tollItselfSpec : ChangeSpec := { name := "tollItself", fn := fun _ => fun
  | [d] => { results := [.lit (.bool true)], args := [d] }
  | _ => none }
def tollItselfRow : OpenClaim := { program := "ytclejblcnfaeaaagreat", sum := "eecdf6295904f5fe7d07304d96081b6a0664c2465f4b4995119e6fda1bff7065", func := "palfrey/palfreylaw12.TollItself", spec := "tollItself", inPlace := ["(*sync.WaitGroup).Add", "internal/race.ReleaseMerge", "internal/race.Disable", "internal/race.Enable", "internal/synctest.IsInBubble", "internal/synctest.Associate[sync.WaitGroup]", "sync.fatal", "sync/atomic.OrUint64", "sync/atomic.AddUint64", "internal/race.Read", "sync/atomic.LoadUint64", "sync/atomic.StoreUint64", "internal/synctest.Disassociate[sync.WaitGroup]", "sync.runtime_Semrelease", "(*sync.WaitGroup).Done", "(*sync.WaitGroup).Wait", "internal/race.Acquire", "internal/synctest.IsAssociated[sync.WaitGroup]", "sync/atomic.CompareAndSwapUint64", "internal/race.Write", "sync.runtime_SemacquireWaitGroup", "internal/bytealg.IndexByteString", "internal/bytealg.IndexString"], unfollowed := true, recurses := true, named := ["internal/bytealg.MaxLen"], plainKeys := false, leaving := true, apart := false }
def TollItselfSaid : Prop := tollItselfRow.holds Tryz.pinned (OpenSpec.ofChange tollItselfSpec)

/-- ITS FALSE NEIGHBOUR: 'it returns false'. Refute it at one input. -/
def tollItselfWrong : ChangeSpec := { name := "tollItself", fn := fun _ => fun
  | [d] => { results := [.lit (.bool false)], args := [d] }
  | _ => none }
def TollItselfWrongFalsely : Prop := tollItselfRow.holds Tryz.pinned (OpenSpec.ofChange tollItselfWrong)

/-- 'palfreylaw12.TollStruck': WHATEVER THE INPUT: true; the input reads as it did. -/
def tollStruckSpec : ChangeSpec := { name := "tollStruck", fn := fun _ => fun
  | [d] => { results := [.lit (.bool true)], args := [d] }
  | _ => none }
def tollStruckRow : OpenClaim := { program := "ytclejblcnfaeaaagreat", sum := "eecdf6295904f5fe7d07304d96081b6a0664c2465f4b4995119e6fda1bff7065", func := "palfrey/palfreylaw12.TollStruck", spec := "tollStruck", inPlace := ["(*sync.WaitGroup).Add", "internal/race.ReleaseMerge", "internal/race.Disable", "internal/race.Enable", "internal/synctest.IsInBubble", "internal/synctest.Associate[sync.WaitGroup]", "sync.fatal", "sync/atomic.OrUint64", "sync/atomic.AddUint64", "internal/race.Read", "sync/atomic.LoadUint64", "sync/atomic.StoreUint64", "internal/synctest.Disassociate[sync.WaitGroup]", "sync.runtime_Semrelease", "(*sync.WaitGroup).Done", "(*sync.WaitGroup).Wait", "internal/race.Acquire", "internal/synctest.IsAssociated[sync.WaitGroup]", "sync/atomic.CompareAndSwapUint64", "internal/race.Write", "sync.runtime_SemacquireWaitGroup", "internal/bytealg.IndexByteString", "internal/bytealg.IndexString"], unfollowed := true, recurses := true, named := ["internal/bytealg.MaxLen"], plainKeys := false, leaving := true, apart := false }
def TollStruckSaid : Prop := tollStruckRow.holds Tryz.pinned (OpenSpec.ofChange tollStruckSpec)

/-- ITS FALSE NEIGHBOUR: 'it returns false'. Refute it at one input. -/
def tollStruckWrong : ChangeSpec := { name := "tollStruck", fn := fun _ => fun
  | [d] => { results := [.lit (.bool false)], args := [d] }
  | _ => none }
def TollStruckWrongFalsely : Prop := tollStruckRow.holds Tryz.pinned (OpenSpec.ofChange tollStruckWrong)

/-- 'palfreylaw12.TollAsked': WHATEVER THE INPUT: true; the input reads as it did. -/
def tollAskedSpec : ChangeSpec := { name := "tollAsked", fn := fun _ => fun
  | [d] => { results := [.lit (.bool true)], args := [d] }
  | _ => none }
def tollAskedRow : OpenClaim := { program := "ytclejblcnfaeaaagreat", sum := "eecdf6295904f5fe7d07304d96081b6a0664c2465f4b4995119e6fda1bff7065", func := "palfrey/palfreylaw12.TollAsked", spec := "tollAsked", inPlace := ["(*sync.WaitGroup).Add", "internal/race.ReleaseMerge", "internal/race.Disable", "internal/race.Enable", "internal/synctest.IsInBubble", "internal/synctest.Associate[sync.WaitGroup]", "sync.fatal", "sync/atomic.OrUint64", "sync/atomic.AddUint64", "internal/race.Read", "sync/atomic.LoadUint64", "sync/atomic.StoreUint64", "internal/synctest.Disassociate[sync.WaitGroup]", "sync.runtime_Semrelease", "(*sync.WaitGroup).Done", "(*sync.WaitGroup).Wait", "internal/race.Acquire", "internal/synctest.IsAssociated[sync.WaitGroup]", "sync/atomic.CompareAndSwapUint64", "internal/race.Write", "sync.runtime_SemacquireWaitGroup", "internal/bytealg.IndexByteString", "internal/bytealg.IndexString"], unfollowed := true, recurses := true, named := ["internal/bytealg.MaxLen"], plainKeys := false, leaving := true, apart := false }
def TollAskedSaid : Prop := tollAskedRow.holds Tryz.pinned (OpenSpec.ofChange tollAskedSpec)

/-- ITS FALSE NEIGHBOUR: 'it returns false'. Refute it at one input. -/
def tollAskedWrong : ChangeSpec := { name := "tollAsked", fn := fun _ => fun
  | [d] => { results := [.lit (.bool false)], args := [d] }
  | _ => none }
def TollAskedWrongFalsely : Prop := tollAskedRow.holds Tryz.pinned (OpenSpec.ofChange tollAskedWrong)

/-- 'palfreylaw12.TollHeld': WHATEVER THE INPUT: true; the input reads as it did. -/
def tollHeldSpec : ChangeSpec := { name := "tollHeld", fn := fun _ => fun
  | [d] => { results := [.lit (.bool true)], args := [d] }
  | _ => none }
def tollHeldRow : OpenClaim := { program := "ytclejblcnfaeaaagreat", sum := "eecdf6295904f5fe7d07304d96081b6a0664c2465f4b4995119e6fda1bff7065", func := "palfrey/palfreylaw12.TollHeld", spec := "tollHeld", inPlace := ["internal/bytealg.IndexByteString", "internal/bytealg.IndexString", "(*sync.WaitGroup).Add", "internal/race.ReleaseMerge", "internal/race.Disable", "internal/race.Enable", "internal/synctest.IsInBubble", "internal/synctest.Associate[sync.WaitGroup]", "sync.fatal", "sync/atomic.OrUint64", "sync/atomic.AddUint64", "internal/race.Read", "sync/atomic.LoadUint64", "sync/atomic.StoreUint64", "internal/synctest.Disassociate[sync.WaitGroup]", "sync.runtime_Semrelease", "(*sync.WaitGroup).Done", "(*sync.WaitGroup).Wait", "internal/race.Acquire", "internal/synctest.IsAssociated[sync.WaitGroup]", "sync/atomic.CompareAndSwapUint64", "internal/race.Write", "sync.runtime_SemacquireWaitGroup"], unfollowed := true, recurses := true, named := ["internal/bytealg.MaxLen"], plainKeys := false, leaving := true, apart := false }
def TollHeldSaid : Prop := tollHeldRow.holds Tryz.pinned (OpenSpec.ofChange tollHeldSpec)

/-- ITS FALSE NEIGHBOUR: 'it returns false'. Refute it at one input. -/
def tollHeldWrong : ChangeSpec := { name := "tollHeld", fn := fun _ => fun
  | [d] => { results := [.lit (.bool false)], args := [d] }
  | _ => none }
def TollHeldWrongFalsely : Prop := tollHeldRow.holds Tryz.pinned (OpenSpec.ofChange tollHeldWrong)

/-- 'palfreylaw12.TollReads': WHATEVER THE INPUT: true; the input reads as it did. -/
def tollReadsSpec : ChangeSpec := { name := "tollReads", fn := fun _ => fun
  | [d1, d2, d3, d4, d5, d6] => { results := [.lit (.bool true)], args := [d1, d2, d3, d4, d5, d6] }
  | _ => none }
def tollReadsRow : OpenClaim := { program := "ytclejblcnfaeaaagreat", sum := "eecdf6295904f5fe7d07304d96081b6a0664c2465f4b4995119e6fda1bff7065", func := "palfrey/palfreylaw12.TollReads", spec := "tollReads", inPlace := ["internal/bytealg.IndexByteString", "internal/bytealg.IndexString", "(*sync.WaitGroup).Add", "internal/race.ReleaseMerge", "internal/race.Disable", "internal/race.Enable", "internal/synctest.IsInBubble", "internal/synctest.Associate[sync.WaitGroup]", "sync.fatal", "sync/atomic.OrUint64", "sync/atomic.AddUint64", "internal/race.Read", "sync/atomic.LoadUint64", "sync/atomic.StoreUint64", "internal/synctest.Disassociate[sync.WaitGroup]", "sync.runtime_Semrelease", "(*sync.WaitGroup).Done", "(*sync.WaitGroup).Wait", "internal/race.Acquire", "internal/synctest.IsAssociated[sync.WaitGroup]", "sync/atomic.CompareAndSwapUint64", "internal/race.Write", "sync.runtime_SemacquireWaitGroup", "internal/abi.NoEscape"], unfollowed := true, recurses := true, named := ["internal/bytealg.MaxLen"], plainKeys := false, leaving := true, apart := false }
def TollReadsSaid : Prop := tollReadsRow.holds Tryz.pinned (OpenSpec.ofChange tollReadsSpec)

/-- ITS FALSE NEIGHBOUR: 'it returns false'. Refute it at one input. -/
def tollReadsWrong : ChangeSpec := { name := "tollReads", fn := fun _ => fun
  | [d1, d2, d3, d4, d5, d6] => { results := [.lit (.bool false)], args := [d1, d2, d3, d4, d5, d6] }
  | _ => none }
def TollReadsWrongFalsely : Prop := tollReadsRow.holds Tryz.pinned (OpenSpec.ofChange tollReadsWrong)

/-- 'palfreylaw12.TollBytes': WHATEVER THE INPUT: true; the input reads as it did. -/
def tollBytesSpec : ChangeSpec := { name := "tollBytes", fn := fun _ => fun
  | [d1, d2, d3, d4, d5] => { results := [.lit (.bool true)], args := [d1, d2, d3, d4, d5] }
  | _ => none }
def tollBytesRow : OpenClaim := { program := "ytclejblcnfaeaaagreat", sum := "eecdf6295904f5fe7d07304d96081b6a0664c2465f4b4995119e6fda1bff7065", func := "palfrey/palfreylaw12.TollBytes", spec := "tollBytes", inPlace := ["internal/bytealg.IndexByteString", "internal/bytealg.IndexString", "(*sync.WaitGroup).Add", "internal/race.ReleaseMerge", "internal/race.Disable", "internal/race.Enable", "internal/synctest.IsInBubble", "internal/synctest.Associate[sync.WaitGroup]", "sync.fatal", "sync/atomic.OrUint64", "sync/atomic.AddUint64", "internal/race.Read", "sync/atomic.LoadUint64", "sync/atomic.StoreUint64", "internal/synctest.Disassociate[sync.WaitGroup]", "sync.runtime_Semrelease", "(*sync.WaitGroup).Done", "(*sync.WaitGroup).Wait", "internal/race.Acquire", "internal/synctest.IsAssociated[sync.WaitGroup]", "sync/atomic.CompareAndSwapUint64", "internal/race.Write", "sync.runtime_SemacquireWaitGroup", "internal/abi.NoEscape"], unfollowed := true, recurses := true, named := ["internal/bytealg.MaxLen"], plainKeys := false, leaving := true, apart := false }
def TollBytesSaid : Prop := tollBytesRow.holds Tryz.pinned (OpenSpec.ofChange tollBytesSpec)

/-- ITS FALSE NEIGHBOUR: 'it returns false'. Refute it at one input. -/
def tollBytesWrong : ChangeSpec := { name := "tollBytes", fn := fun _ => fun
  | [d1, d2, d3, d4, d5] => { results := [.lit (.bool false)], args := [d1, d2, d3, d4, d5] }
  | _ => none }
def TollBytesWrongFalsely : Prop := tollBytesRow.holds Tryz.pinned (OpenSpec.ofChange tollBytesWrong)

/-- 'palfreylaw12.TollOwners': WHATEVER THE INPUT: true; the input reads as it did. -/
def tollOwnersSpec : ChangeSpec := { name := "tollOwners", fn := fun _ => fun
  | [d1, d2, d3, d4, d5, d6] => { results := [.lit (.bool true)], args := [d1, d2, d3, d4, d5, d6] }
  | _ => none }
def tollOwnersRow : OpenClaim := { program := "ytclejblcnfaeaaagreat", sum := "eecdf6295904f5fe7d07304d96081b6a0664c2465f4b4995119e6fda1bff7065", func := "palfrey/palfreylaw12.TollOwners", spec := "tollOwners", inPlace := ["internal/bytealg.IndexByteString", "internal/bytealg.IndexString", "(*sync.WaitGroup).Add", "internal/race.ReleaseMerge", "internal/race.Disable", "internal/race.Enable", "internal/synctest.IsInBubble", "internal/synctest.Associate[sync.WaitGroup]", "sync.fatal", "sync/atomic.OrUint64", "sync/atomic.AddUint64", "internal/race.Read", "sync/atomic.LoadUint64", "sync/atomic.StoreUint64", "internal/synctest.Disassociate[sync.WaitGroup]", "sync.runtime_Semrelease", "(*sync.WaitGroup).Done", "(*sync.WaitGroup).Wait", "internal/race.Acquire", "internal/synctest.IsAssociated[sync.WaitGroup]", "sync/atomic.CompareAndSwapUint64", "internal/race.Write", "sync.runtime_SemacquireWaitGroup"], unfollowed := true, recurses := true, named := ["internal/bytealg.MaxLen"], plainKeys := false, leaving := true, apart := false }
def TollOwnersSaid : Prop := tollOwnersRow.holds Tryz.pinned (OpenSpec.ofChange tollOwnersSpec)

/-- ITS FALSE NEIGHBOUR: 'it returns false'. Refute it at one input. -/
def tollOwnersWrong : ChangeSpec := { name := "tollOwners", fn := fun _ => fun
  | [d1, d2, d3, d4, d5, d6] => { results := [.lit (.bool false)], args := [d1, d2, d3, d4, d5, d6] }
  | _ => none }
def TollOwnersWrongFalsely : Prop := tollOwnersRow.holds Tryz.pinned (OpenSpec.ofChange tollOwnersWrong)

/-- 'palfreylaw12.TollJoint': WHATEVER THE INPUT: true; the input reads as it did. -/
def tollJointSpec : ChangeSpec := { name := "tollJoint", fn := fun _ => fun
  | [d] => { results := [.lit (.bool true)], args := [d] }
  | _ => none }
def tollJointRow : OpenClaim := { program := "ytclejblcnfaeaaagreat", sum := "eecdf6295904f5fe7d07304d96081b6a0664c2465f4b4995119e6fda1bff7065", func := "palfrey/palfreylaw12.TollJoint", spec := "tollJoint", inPlace := ["(*sync.WaitGroup).Add", "internal/race.ReleaseMerge", "internal/race.Disable", "internal/race.Enable", "internal/synctest.IsInBubble", "internal/synctest.Associate[sync.WaitGroup]", "sync.fatal", "sync/atomic.OrUint64", "sync/atomic.AddUint64", "internal/race.Read", "sync/atomic.LoadUint64", "sync/atomic.StoreUint64", "internal/synctest.Disassociate[sync.WaitGroup]", "sync.runtime_Semrelease", "(*sync.WaitGroup).Done", "(*sync.WaitGroup).Wait", "internal/race.Acquire", "internal/synctest.IsAssociated[sync.WaitGroup]", "sync/atomic.CompareAndSwapUint64", "internal/race.Write", "sync.runtime_SemacquireWaitGroup", "internal/bytealg.IndexByteString", "internal/bytealg.IndexString"], unfollowed := true, recurses := true, named := ["internal/bytealg.MaxLen"], plainKeys := false, leaving := true, apart := false }
def TollJointSaid : Prop := tollJointRow.holds Tryz.pinned (OpenSpec.ofChange tollJointSpec)

/-- ITS FALSE NEIGHBOUR: 'it returns false'. Refute it at one input. -/
def tollJointWrong : ChangeSpec := { name := "tollJoint", fn := fun _ => fun
  | [d] => { results := [.lit (.bool false)], args := [d] }
  | _ => none }
def TollJointWrongFalsely : Prop := tollJointRow.holds Tryz.pinned (OpenSpec.ofChange tollJointWrong)

/-- 'palfreylaw12.TollAll': WHATEVER THE INPUT: true; the input reads as it did. -/
def tollAllSpec : ChangeSpec := { name := "tollAll", fn := fun _ => fun
  | [d] => { results := [.lit (.bool true)], args := [d] }
  | _ => none }
def tollAllRow : OpenClaim := { program := "ytclejblcnfaeaaagreat", sum := "eecdf6295904f5fe7d07304d96081b6a0664c2465f4b4995119e6fda1bff7065", func := "palfrey/palfreylaw12.TollAll", spec := "tollAll", inPlace := ["(*sync.WaitGroup).Add", "internal/race.ReleaseMerge", "internal/race.Disable", "internal/race.Enable", "internal/synctest.IsInBubble", "internal/synctest.Associate[sync.WaitGroup]", "sync.fatal", "sync/atomic.OrUint64", "sync/atomic.AddUint64", "internal/race.Read", "sync/atomic.LoadUint64", "sync/atomic.StoreUint64", "internal/synctest.Disassociate[sync.WaitGroup]", "sync.runtime_Semrelease", "(*sync.WaitGroup).Done", "(*sync.WaitGroup).Wait", "internal/race.Acquire", "internal/synctest.IsAssociated[sync.WaitGroup]", "sync/atomic.CompareAndSwapUint64", "internal/race.Write", "sync.runtime_SemacquireWaitGroup", "internal/bytealg.IndexByteString", "internal/bytealg.IndexString"], unfollowed := true, recurses := true, named := ["internal/bytealg.MaxLen"], plainKeys := false, leaving := true, apart := false }
def TollAllSaid : Prop := tollAllRow.holds Tryz.pinned (OpenSpec.ofChange tollAllSpec)

/-- ITS FALSE NEIGHBOUR: 'it returns false'. Refute it at one input. -/
def tollAllWrong : ChangeSpec := { name := "tollAll", fn := fun _ => fun
  | [d] => { results := [.lit (.bool false)], args := [d] }
  | _ => none }
def TollAllWrongFalsely : Prop := tollAllRow.holds Tryz.pinned (OpenSpec.ofChange tollAllWrong)

/-- 'palfreylaw12.TollTurned': WHATEVER THE INPUT: true; the input reads as it did. -/
def tollTurnedSpec : ChangeSpec := { name := "tollTurned", fn := fun _ => fun
  | [d] => { results := [.lit (.bool true)], args := [d] }
  | _ => none }
def tollTurnedRow : OpenClaim := { program := "ytclejblcnfaeaaagreat", sum := "eecdf6295904f5fe7d07304d96081b6a0664c2465f4b4995119e6fda1bff7065", func := "palfrey/palfreylaw12.TollTurned", spec := "tollTurned", inPlace := ["(*sync.WaitGroup).Add", "internal/race.ReleaseMerge", "internal/race.Disable", "internal/race.Enable", "internal/synctest.IsInBubble", "internal/synctest.Associate[sync.WaitGroup]", "sync.fatal", "sync/atomic.OrUint64", "sync/atomic.AddUint64", "internal/race.Read", "sync/atomic.LoadUint64", "sync/atomic.StoreUint64", "internal/synctest.Disassociate[sync.WaitGroup]", "sync.runtime_Semrelease", "(*sync.WaitGroup).Done", "(*sync.WaitGroup).Wait", "internal/race.Acquire", "internal/synctest.IsAssociated[sync.WaitGroup]", "sync/atomic.CompareAndSwapUint64", "internal/race.Write", "sync.runtime_SemacquireWaitGroup", "internal/bytealg.IndexByteString", "internal/bytealg.IndexString"], unfollowed := true, recurses := true, named := ["internal/bytealg.MaxLen"], plainKeys := false, leaving := true, apart := false }
def TollTurnedSaid : Prop := tollTurnedRow.holds Tryz.pinned (OpenSpec.ofChange tollTurnedSpec)

/-- ITS FALSE NEIGHBOUR: 'it returns false'. Refute it at one input. -/
def tollTurnedWrong : ChangeSpec := { name := "tollTurned", fn := fun _ => fun
  | [d] => { results := [.lit (.bool false)], args := [d] }
  | _ => none }
def TollTurnedWrongFalsely : Prop := tollTurnedRow.holds Tryz.pinned (OpenSpec.ofChange tollTurnedWrong)

/-- 'palfreylaw12.TollNumbered': WHATEVER THE INPUT: true; the input reads as it did. -/
def tollNumberedSpec : ChangeSpec := { name := "tollNumbered", fn := fun _ => fun
  | [d] => { results := [.lit (.bool true)], args := [d] }
  | _ => none }
def tollNumberedRow : OpenClaim := { program := "ytclejblcnfaeaaagreat", sum := "eecdf6295904f5fe7d07304d96081b6a0664c2465f4b4995119e6fda1bff7065", func := "palfrey/palfreylaw12.TollNumbered", spec := "tollNumbered", inPlace := ["(*sync.WaitGroup).Add", "internal/race.ReleaseMerge", "internal/race.Disable", "internal/race.Enable", "internal/synctest.IsInBubble", "internal/synctest.Associate[sync.WaitGroup]", "sync.fatal", "sync/atomic.OrUint64", "sync/atomic.AddUint64", "internal/race.Read", "sync/atomic.LoadUint64", "sync/atomic.StoreUint64", "internal/synctest.Disassociate[sync.WaitGroup]", "sync.runtime_Semrelease", "(*sync.WaitGroup).Done", "(*sync.WaitGroup).Wait", "internal/race.Acquire", "internal/synctest.IsAssociated[sync.WaitGroup]", "sync/atomic.CompareAndSwapUint64", "internal/race.Write", "sync.runtime_SemacquireWaitGroup", "internal/bytealg.IndexByteString", "internal/bytealg.IndexString"], unfollowed := true, recurses := true, named := ["internal/bytealg.MaxLen"], plainKeys := false, leaving := true, apart := false }
def TollNumberedSaid : Prop := tollNumberedRow.holds Tryz.pinned (OpenSpec.ofChange tollNumberedSpec)

/-- ITS FALSE NEIGHBOUR: 'it returns false'. Refute it at one input. -/
def tollNumberedWrong : ChangeSpec := { name := "tollNumbered", fn := fun _ => fun
  | [d] => { results := [.lit (.bool false)], args := [d] }
  | _ => none }
def TollNumberedWrongFalsely : Prop := tollNumberedRow.holds Tryz.pinned (OpenSpec.ofChange tollNumberedWrong)

/- THE SECOND FORM. 'bulk': how many values and letters a reading holds, each counted each time it is reached (what is shared counts as often as it is met; a slice's spare places count too). A statement '..UptoSaid' is the law's where the arguments, and the package variables that the reading takes, are together of bulk at most 1048576: NARROWER than '..Said'. Prove '..Said' where nothing that the law and all that it calls make is longer than what came in: it says more and counts as full. Else prove '..UptoSaid'. A law counts once. -/
mutual
def uptoBulk {H : Type} : DataW H → Nat
  | .lit (.string bytes) => bytes.length + 1
  | .lit _ => 1
  | .nil => 1
  | .ptr d => uptoBulk d + 1
  | .slice elems spare => uptoBulkAll elems + uptoBulkAll spare + 1
  | .agg parts => uptoBulkAll parts + 1
  | .iface _ d => uptoBulk d + 1
  | .map entries => uptoBulkEntries entries + 1
  | .held _ => 1
def uptoBulkAll {H : Type} : List (DataW H) → Nat
  | [] => 0
  | d :: r => uptoBulk d + uptoBulkAll r
def uptoBulkEntries {H : Type} : List (Lit × DataW H) → Nat
  | [] => 0
  | x :: r => uptoBulkEntry x + uptoBulkEntries r
def uptoBulkEntry {H : Type} : Lit × DataW H → Nat
  | (.string bytes, d) => bytes.length + uptoBulk d + 1
  | (_, d) => uptoBulk d + 1
 end
def uptoSmall : (H : Type) → List (DataW H) → Bool := fun _ ds => decide (uptoBulkAll ds ≤ 1048576)
def OpenSpec.upto (s : _root_.Go.ChangeSpec) : _root_.Go.OpenSpec := { _root_.Go.OpenSpec.ofChange s with cond := some uptoSmall }

/-- 'palfreylaw12.TollChecks', WHERE WHAT IT READS IS OF BULK AT MOST 1048576: true; the input reads as it did. -/
def tollChecksUptoRow : OpenClaim := { program := "ytclejblcnfaeaaagreat", sum := "eecdf6295904f5fe7d07304d96081b6a0664c2465f4b4995119e6fda1bff7065", func := "palfrey/palfreylaw12.TollChecks", spec := "tollChecks", inPlace := ["internal/bytealg.IndexByteString", "internal/bytealg.IndexString", "(*sync.WaitGroup).Add", "internal/race.ReleaseMerge", "internal/race.Disable", "internal/race.Enable", "internal/synctest.IsInBubble", "internal/synctest.Associate[sync.WaitGroup]", "sync.fatal", "sync/atomic.OrUint64", "sync/atomic.AddUint64", "internal/race.Read", "sync/atomic.LoadUint64", "sync/atomic.StoreUint64", "internal/synctest.Disassociate[sync.WaitGroup]", "sync.runtime_Semrelease", "(*sync.WaitGroup).Done", "(*sync.WaitGroup).Wait", "internal/race.Acquire", "internal/synctest.IsAssociated[sync.WaitGroup]", "sync/atomic.CompareAndSwapUint64", "internal/race.Write", "sync.runtime_SemacquireWaitGroup"], unfollowed := true, recurses := true, named := ["internal/bytealg.MaxLen"], plainKeys := false, leaving := true, apart := false, narrowed := true }
def TollChecksUptoSaid : Prop := tollChecksUptoRow.holds Tryz.pinned (OpenSpec.upto tollChecksSpec)

/-- 'palfreylaw12.TollJoins', WHERE WHAT IT READS IS OF BULK AT MOST 1048576: true; the input reads as it did. -/
def tollJoinsUptoRow : OpenClaim := { program := "ytclejblcnfaeaaagreat", sum := "eecdf6295904f5fe7d07304d96081b6a0664c2465f4b4995119e6fda1bff7065", func := "palfrey/palfreylaw12.TollJoins", spec := "tollJoins", inPlace := ["internal/bytealg.IndexByteString", "internal/bytealg.IndexString", "(*sync.WaitGroup).Add", "internal/race.ReleaseMerge", "internal/race.Disable", "internal/race.Enable", "internal/synctest.IsInBubble", "internal/synctest.Associate[sync.WaitGroup]", "sync.fatal", "sync/atomic.OrUint64", "sync/atomic.AddUint64", "internal/race.Read", "sync/atomic.LoadUint64", "sync/atomic.StoreUint64", "internal/synctest.Disassociate[sync.WaitGroup]", "sync.runtime_Semrelease", "(*sync.WaitGroup).Done", "(*sync.WaitGroup).Wait", "internal/race.Acquire", "internal/synctest.IsAssociated[sync.WaitGroup]", "sync/atomic.CompareAndSwapUint64", "internal/race.Write", "sync.runtime_SemacquireWaitGroup"], unfollowed := true, recurses := true, named := ["internal/bytealg.MaxLen"], plainKeys := false, leaving := true, apart := false, narrowed := true }
def TollJoinsUptoSaid : Prop := tollJoinsUptoRow.holds Tryz.pinned (OpenSpec.upto tollJoinsSpec)

/-- 'palfreylaw12.TollStrucks', WHERE WHAT IT READS IS OF BULK AT MOST 1048576: true; the input reads as it did. -/
def tollStrucksUptoRow : OpenClaim := { program := "ytclejblcnfaeaaagreat", sum := "eecdf6295904f5fe7d07304d96081b6a0664c2465f4b4995119e6fda1bff7065", func := "palfrey/palfreylaw12.TollStrucks", spec := "tollStrucks", inPlace := ["internal/bytealg.IndexByteString", "internal/bytealg.IndexString", "(*sync.WaitGroup).Add", "internal/race.ReleaseMerge", "internal/race.Disable", "internal/race.Enable", "internal/synctest.IsInBubble", "internal/synctest.Associate[sync.WaitGroup]", "sync.fatal", "sync/atomic.OrUint64", "sync/atomic.AddUint64", "internal/race.Read", "sync/atomic.LoadUint64", "sync/atomic.StoreUint64", "internal/synctest.Disassociate[sync.WaitGroup]", "sync.runtime_Semrelease", "(*sync.WaitGroup).Done", "(*sync.WaitGroup).Wait", "internal/race.Acquire", "internal/synctest.IsAssociated[sync.WaitGroup]", "sync/atomic.CompareAndSwapUint64", "internal/race.Write", "sync.runtime_SemacquireWaitGroup"], unfollowed := true, recurses := true, named := ["internal/bytealg.MaxLen"], plainKeys := false, leaving := true, apart := false, narrowed := true }
def TollStrucksUptoSaid : Prop := tollStrucksUptoRow.holds Tryz.pinned (OpenSpec.upto tollStrucksSpec)

/-- 'palfreylaw12.TollItself', WHERE WHAT IT READS IS OF BULK AT MOST 1048576: true; the input reads as it did. -/
def tollItselfUptoRow : OpenClaim := { program := "ytclejblcnfaeaaagreat", sum := "eecdf6295904f5fe7d07304d96081b6a0664c2465f4b4995119e6fda1bff7065", func := "palfrey/palfreylaw12.TollItself", spec := "tollItself", inPlace := ["(*sync.WaitGroup).Add", "internal/race.ReleaseMerge", "internal/race.Disable", "internal/race.Enable", "internal/synctest.IsInBubble", "internal/synctest.Associate[sync.WaitGroup]", "sync.fatal", "sync/atomic.OrUint64", "sync/atomic.AddUint64", "internal/race.Read", "sync/atomic.LoadUint64", "sync/atomic.StoreUint64", "internal/synctest.Disassociate[sync.WaitGroup]", "sync.runtime_Semrelease", "(*sync.WaitGroup).Done", "(*sync.WaitGroup).Wait", "internal/race.Acquire", "internal/synctest.IsAssociated[sync.WaitGroup]", "sync/atomic.CompareAndSwapUint64", "internal/race.Write", "sync.runtime_SemacquireWaitGroup", "internal/bytealg.IndexByteString", "internal/bytealg.IndexString"], unfollowed := true, recurses := true, named := ["internal/bytealg.MaxLen"], plainKeys := false, leaving := true, apart := false, narrowed := true }
def TollItselfUptoSaid : Prop := tollItselfUptoRow.holds Tryz.pinned (OpenSpec.upto tollItselfSpec)

/-- 'palfreylaw12.TollStruck', WHERE WHAT IT READS IS OF BULK AT MOST 1048576: true; the input reads as it did. -/
def tollStruckUptoRow : OpenClaim := { program := "ytclejblcnfaeaaagreat", sum := "eecdf6295904f5fe7d07304d96081b6a0664c2465f4b4995119e6fda1bff7065", func := "palfrey/palfreylaw12.TollStruck", spec := "tollStruck", inPlace := ["(*sync.WaitGroup).Add", "internal/race.ReleaseMerge", "internal/race.Disable", "internal/race.Enable", "internal/synctest.IsInBubble", "internal/synctest.Associate[sync.WaitGroup]", "sync.fatal", "sync/atomic.OrUint64", "sync/atomic.AddUint64", "internal/race.Read", "sync/atomic.LoadUint64", "sync/atomic.StoreUint64", "internal/synctest.Disassociate[sync.WaitGroup]", "sync.runtime_Semrelease", "(*sync.WaitGroup).Done", "(*sync.WaitGroup).Wait", "internal/race.Acquire", "internal/synctest.IsAssociated[sync.WaitGroup]", "sync/atomic.CompareAndSwapUint64", "internal/race.Write", "sync.runtime_SemacquireWaitGroup", "internal/bytealg.IndexByteString", "internal/bytealg.IndexString"], unfollowed := true, recurses := true, named := ["internal/bytealg.MaxLen"], plainKeys := false, leaving := true, apart := false, narrowed := true }
def TollStruckUptoSaid : Prop := tollStruckUptoRow.holds Tryz.pinned (OpenSpec.upto tollStruckSpec)

/-- 'palfreylaw12.TollAsked', WHERE WHAT IT READS IS OF BULK AT MOST 1048576: true; the input reads as it did. -/
def tollAskedUptoRow : OpenClaim := { program := "ytclejblcnfaeaaagreat", sum := "eecdf6295904f5fe7d07304d96081b6a0664c2465f4b4995119e6fda1bff7065", func := "palfrey/palfreylaw12.TollAsked", spec := "tollAsked", inPlace := ["(*sync.WaitGroup).Add", "internal/race.ReleaseMerge", "internal/race.Disable", "internal/race.Enable", "internal/synctest.IsInBubble", "internal/synctest.Associate[sync.WaitGroup]", "sync.fatal", "sync/atomic.OrUint64", "sync/atomic.AddUint64", "internal/race.Read", "sync/atomic.LoadUint64", "sync/atomic.StoreUint64", "internal/synctest.Disassociate[sync.WaitGroup]", "sync.runtime_Semrelease", "(*sync.WaitGroup).Done", "(*sync.WaitGroup).Wait", "internal/race.Acquire", "internal/synctest.IsAssociated[sync.WaitGroup]", "sync/atomic.CompareAndSwapUint64", "internal/race.Write", "sync.runtime_SemacquireWaitGroup", "internal/bytealg.IndexByteString", "internal/bytealg.IndexString"], unfollowed := true, recurses := true, named := ["internal/bytealg.MaxLen"], plainKeys := false, leaving := true, apart := false, narrowed := true }
def TollAskedUptoSaid : Prop := tollAskedUptoRow.holds Tryz.pinned (OpenSpec.upto tollAskedSpec)

/-- 'palfreylaw12.TollHeld', WHERE WHAT IT READS IS OF BULK AT MOST 1048576: true; the input reads as it did. -/
def tollHeldUptoRow : OpenClaim := { program := "ytclejblcnfaeaaagreat", sum := "eecdf6295904f5fe7d07304d96081b6a0664c2465f4b4995119e6fda1bff7065", func := "palfrey/palfreylaw12.TollHeld", spec := "tollHeld", inPlace := ["internal/bytealg.IndexByteString", "internal/bytealg.IndexString", "(*sync.WaitGroup).Add", "internal/race.ReleaseMerge", "internal/race.Disable", "internal/race.Enable", "internal/synctest.IsInBubble", "internal/synctest.Associate[sync.WaitGroup]", "sync.fatal", "sync/atomic.OrUint64", "sync/atomic.AddUint64", "internal/race.Read", "sync/atomic.LoadUint64", "sync/atomic.StoreUint64", "internal/synctest.Disassociate[sync.WaitGroup]", "sync.runtime_Semrelease", "(*sync.WaitGroup).Done", "(*sync.WaitGroup).Wait", "internal/race.Acquire", "internal/synctest.IsAssociated[sync.WaitGroup]", "sync/atomic.CompareAndSwapUint64", "internal/race.Write", "sync.runtime_SemacquireWaitGroup"], unfollowed := true, recurses := true, named := ["internal/bytealg.MaxLen"], plainKeys := false, leaving := true, apart := false, narrowed := true }
def TollHeldUptoSaid : Prop := tollHeldUptoRow.holds Tryz.pinned (OpenSpec.upto tollHeldSpec)

/-- 'palfreylaw12.TollReads', WHERE WHAT IT READS IS OF BULK AT MOST 1048576: true; the input reads as it did. -/
def tollReadsUptoRow : OpenClaim := { program := "ytclejblcnfaeaaagreat", sum := "eecdf6295904f5fe7d07304d96081b6a0664c2465f4b4995119e6fda1bff7065", func := "palfrey/palfreylaw12.TollReads", spec := "tollReads", inPlace := ["internal/bytealg.IndexByteString", "internal/bytealg.IndexString", "(*sync.WaitGroup).Add", "internal/race.ReleaseMerge", "internal/race.Disable", "internal/race.Enable", "internal/synctest.IsInBubble", "internal/synctest.Associate[sync.WaitGroup]", "sync.fatal", "sync/atomic.OrUint64", "sync/atomic.AddUint64", "internal/race.Read", "sync/atomic.LoadUint64", "sync/atomic.StoreUint64", "internal/synctest.Disassociate[sync.WaitGroup]", "sync.runtime_Semrelease", "(*sync.WaitGroup).Done", "(*sync.WaitGroup).Wait", "internal/race.Acquire", "internal/synctest.IsAssociated[sync.WaitGroup]", "sync/atomic.CompareAndSwapUint64", "internal/race.Write", "sync.runtime_SemacquireWaitGroup", "internal/abi.NoEscape"], unfollowed := true, recurses := true, named := ["internal/bytealg.MaxLen"], plainKeys := false, leaving := true, apart := false, narrowed := true }
def TollReadsUptoSaid : Prop := tollReadsUptoRow.holds Tryz.pinned (OpenSpec.upto tollReadsSpec)

/-- 'palfreylaw12.TollBytes', WHERE WHAT IT READS IS OF BULK AT MOST 1048576: true; the input reads as it did. -/
def tollBytesUptoRow : OpenClaim := { program := "ytclejblcnfaeaaagreat", sum := "eecdf6295904f5fe7d07304d96081b6a0664c2465f4b4995119e6fda1bff7065", func := "palfrey/palfreylaw12.TollBytes", spec := "tollBytes", inPlace := ["internal/bytealg.IndexByteString", "internal/bytealg.IndexString", "(*sync.WaitGroup).Add", "internal/race.ReleaseMerge", "internal/race.Disable", "internal/race.Enable", "internal/synctest.IsInBubble", "internal/synctest.Associate[sync.WaitGroup]", "sync.fatal", "sync/atomic.OrUint64", "sync/atomic.AddUint64", "internal/race.Read", "sync/atomic.LoadUint64", "sync/atomic.StoreUint64", "internal/synctest.Disassociate[sync.WaitGroup]", "sync.runtime_Semrelease", "(*sync.WaitGroup).Done", "(*sync.WaitGroup).Wait", "internal/race.Acquire", "internal/synctest.IsAssociated[sync.WaitGroup]", "sync/atomic.CompareAndSwapUint64", "internal/race.Write", "sync.runtime_SemacquireWaitGroup", "internal/abi.NoEscape"], unfollowed := true, recurses := true, named := ["internal/bytealg.MaxLen"], plainKeys := false, leaving := true, apart := false, narrowed := true }
def TollBytesUptoSaid : Prop := tollBytesUptoRow.holds Tryz.pinned (OpenSpec.upto tollBytesSpec)

/-- 'palfreylaw12.TollOwners', WHERE WHAT IT READS IS OF BULK AT MOST 1048576: true; the input reads as it did. -/
def tollOwnersUptoRow : OpenClaim := { program := "ytclejblcnfaeaaagreat", sum := "eecdf6295904f5fe7d07304d96081b6a0664c2465f4b4995119e6fda1bff7065", func := "palfrey/palfreylaw12.TollOwners", spec := "tollOwners", inPlace := ["internal/bytealg.IndexByteString", "internal/bytealg.IndexString", "(*sync.WaitGroup).Add", "internal/race.ReleaseMerge", "internal/race.Disable", "internal/race.Enable", "internal/synctest.IsInBubble", "internal/synctest.Associate[sync.WaitGroup]", "sync.fatal", "sync/atomic.OrUint64", "sync/atomic.AddUint64", "internal/race.Read", "sync/atomic.LoadUint64", "sync/atomic.StoreUint64", "internal/synctest.Disassociate[sync.WaitGroup]", "sync.runtime_Semrelease", "(*sync.WaitGroup).Done", "(*sync.WaitGroup).Wait", "internal/race.Acquire", "internal/synctest.IsAssociated[sync.WaitGroup]", "sync/atomic.CompareAndSwapUint64", "internal/race.Write", "sync.runtime_SemacquireWaitGroup"], unfollowed := true, recurses := true, named := ["internal/bytealg.MaxLen"], plainKeys := false, leaving := true, apart := false, narrowed := true }
def TollOwnersUptoSaid : Prop := tollOwnersUptoRow.holds Tryz.pinned (OpenSpec.upto tollOwnersSpec)

/-- 'palfreylaw12.TollJoint', WHERE WHAT IT READS IS OF BULK AT MOST 1048576: true; the input reads as it did. -/
def tollJointUptoRow : OpenClaim := { program := "ytclejblcnfaeaaagreat", sum := "eecdf6295904f5fe7d07304d96081b6a0664c2465f4b4995119e6fda1bff7065", func := "palfrey/palfreylaw12.TollJoint", spec := "tollJoint", inPlace := ["(*sync.WaitGroup).Add", "internal/race.ReleaseMerge", "internal/race.Disable", "internal/race.Enable", "internal/synctest.IsInBubble", "internal/synctest.Associate[sync.WaitGroup]", "sync.fatal", "sync/atomic.OrUint64", "sync/atomic.AddUint64", "internal/race.Read", "sync/atomic.LoadUint64", "sync/atomic.StoreUint64", "internal/synctest.Disassociate[sync.WaitGroup]", "sync.runtime_Semrelease", "(*sync.WaitGroup).Done", "(*sync.WaitGroup).Wait", "internal/race.Acquire", "internal/synctest.IsAssociated[sync.WaitGroup]", "sync/atomic.CompareAndSwapUint64", "internal/race.Write", "sync.runtime_SemacquireWaitGroup", "internal/bytealg.IndexByteString", "internal/bytealg.IndexString"], unfollowed := true, recurses := true, named := ["internal/bytealg.MaxLen"], plainKeys := false, leaving := true, apart := false, narrowed := true }
def TollJointUptoSaid : Prop := tollJointUptoRow.holds Tryz.pinned (OpenSpec.upto tollJointSpec)

/-- 'palfreylaw12.TollAll', WHERE WHAT IT READS IS OF BULK AT MOST 1048576: true; the input reads as it did. -/
def tollAllUptoRow : OpenClaim := { program := "ytclejblcnfaeaaagreat", sum := "eecdf6295904f5fe7d07304d96081b6a0664c2465f4b4995119e6fda1bff7065", func := "palfrey/palfreylaw12.TollAll", spec := "tollAll", inPlace := ["(*sync.WaitGroup).Add", "internal/race.ReleaseMerge", "internal/race.Disable", "internal/race.Enable", "internal/synctest.IsInBubble", "internal/synctest.Associate[sync.WaitGroup]", "sync.fatal", "sync/atomic.OrUint64", "sync/atomic.AddUint64", "internal/race.Read", "sync/atomic.LoadUint64", "sync/atomic.StoreUint64", "internal/synctest.Disassociate[sync.WaitGroup]", "sync.runtime_Semrelease", "(*sync.WaitGroup).Done", "(*sync.WaitGroup).Wait", "internal/race.Acquire", "internal/synctest.IsAssociated[sync.WaitGroup]", "sync/atomic.CompareAndSwapUint64", "internal/race.Write", "sync.runtime_SemacquireWaitGroup", "internal/bytealg.IndexByteString", "internal/bytealg.IndexString"], unfollowed := true, recurses := true, named := ["internal/bytealg.MaxLen"], plainKeys := false, leaving := true, apart := false, narrowed := true }
def TollAllUptoSaid : Prop := tollAllUptoRow.holds Tryz.pinned (OpenSpec.upto tollAllSpec)

/-- 'palfreylaw12.TollTurned', WHERE WHAT IT READS IS OF BULK AT MOST 1048576: true; the input reads as it did. -/
def tollTurnedUptoRow : OpenClaim := { program := "ytclejblcnfaeaaagreat", sum := "eecdf6295904f5fe7d07304d96081b6a0664c2465f4b4995119e6fda1bff7065", func := "palfrey/palfreylaw12.TollTurned", spec := "tollTurned", inPlace := ["(*sync.WaitGroup).Add", "internal/race.ReleaseMerge", "internal/race.Disable", "internal/race.Enable", "internal/synctest.IsInBubble", "internal/synctest.Associate[sync.WaitGroup]", "sync.fatal", "sync/atomic.OrUint64", "sync/atomic.AddUint64", "internal/race.Read", "sync/atomic.LoadUint64", "sync/atomic.StoreUint64", "internal/synctest.Disassociate[sync.WaitGroup]", "sync.runtime_Semrelease", "(*sync.WaitGroup).Done", "(*sync.WaitGroup).Wait", "internal/race.Acquire", "internal/synctest.IsAssociated[sync.WaitGroup]", "sync/atomic.CompareAndSwapUint64", "internal/race.Write", "sync.runtime_SemacquireWaitGroup", "internal/bytealg.IndexByteString", "internal/bytealg.IndexString"], unfollowed := true, recurses := true, named := ["internal/bytealg.MaxLen"], plainKeys := false, leaving := true, apart := false, narrowed := true }
def TollTurnedUptoSaid : Prop := tollTurnedUptoRow.holds Tryz.pinned (OpenSpec.upto tollTurnedSpec)

/-- 'palfreylaw12.TollNumbered', WHERE WHAT IT READS IS OF BULK AT MOST 1048576: true; the input reads as it did. -/
def tollNumberedUptoRow : OpenClaim := { program := "ytclejblcnfaeaaagreat", sum := "eecdf6295904f5fe7d07304d96081b6a0664c2465f4b4995119e6fda1bff7065", func := "palfrey/palfreylaw12.TollNumbered", spec := "tollNumbered", inPlace := ["(*sync.WaitGroup).Add", "internal/race.ReleaseMerge", "internal/race.Disable", "internal/race.Enable", "internal/synctest.IsInBubble", "internal/synctest.Associate[sync.WaitGroup]", "sync.fatal", "sync/atomic.OrUint64", "sync/atomic.AddUint64", "internal/race.Read", "sync/atomic.LoadUint64", "sync/atomic.StoreUint64", "internal/synctest.Disassociate[sync.WaitGroup]", "sync.runtime_Semrelease", "(*sync.WaitGroup).Done", "(*sync.WaitGroup).Wait", "internal/race.Acquire", "internal/synctest.IsAssociated[sync.WaitGroup]", "sync/atomic.CompareAndSwapUint64", "internal/race.Write", "sync.runtime_SemacquireWaitGroup", "internal/bytealg.IndexByteString", "internal/bytealg.IndexString"], unfollowed := true, recurses := true, named := ["internal/bytealg.MaxLen"], plainKeys := false, leaving := true, apart := false, narrowed := true }
def TollNumberedUptoSaid : Prop := tollNumberedUptoRow.holds Tryz.pinned (OpenSpec.upto tollNumberedSpec)

end Rows
end Go.Proofs.YtclejblcnfaeaaaGreat
