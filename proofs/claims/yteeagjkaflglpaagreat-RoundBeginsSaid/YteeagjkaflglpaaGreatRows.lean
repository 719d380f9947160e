/-
  No cell of these rows narrows 'for every input' (looked for: loops, veiled, ifaces, maps, wideKeys, modest, calm, conditions, laid).
  DERIVED. THE GIVEN ROWS OF THIS SEAT. 22 by the template 'for every input the law returns true; each argument reads behind the call as it read before'; 0 by the template 'total and deterministic' (their statements: YteeagjkaflglpaaGreatTotals.lean).
  GIVEN WITH THE SEED: the statements are not yours to turn. If you find one false, say at which input.
  Laid BY PROGRAM, IN A SANDBOX (cutbox-rows.mjs): the forced cells as the released guide's own fill.sh prints them over the translation 839f7afc2b7f1121… (all of the seat's roots in one cut). By AI agents, Wed Nov 11 2026. No macro, syntax, notation, axiom, sorry.
-/
import Derived.Test.YteeagjkaflglpaaGreatChecked
import GoSem.Claim
import GoSem.ClaimJoined
import GoSem.ClaimMapViews
import Derived.JoinedTies
import Derived.KernelRfl
namespace Go.Proofs.YteeagjkaflglpaaGreat
/- THE CELL 'sum', in the pinned program and in every row, IS THE sha256 OF THE DUMP (.gsa) THAT YteeagjkaflglpaaGreatProg.lean LOADS. Nothing in Lean hashes anything: it is a label: what it is worth is what the hold of that sum in a sandbox is worth. -/
noncomputable def Tryz.pinned : Pinned := { name := "yteeagjkaflglpaagreat", sum := "839f7afc2b7f112139f86d4bff27111895c5536e90fe0796a5ee8b13eee2eb9e", checked := Tryz.checked }
namespace Rows
def none {H : Type} : Left H := { results := [], args := [] }

/-- 'wayzgooselaw02.RoundServes': WHATEVER THE INPUT: true; the input reads as it did. -/
def roundServesSpec : ChangeSpec := { name := "roundServes", fn := fun _ => fun
  | [d1, d2, d3, d4, d5, d6, d7, d8] => { results := [.lit (.bool true)], args := [d1, d2, d3, d4, d5, d6, d7, d8] }
  | _ => none }
def roundServesRow : OpenClaim := { program := "yteeagjkaflglpaagreat", sum := "839f7afc2b7f112139f86d4bff27111895c5536e90fe0796a5ee8b13eee2eb9e", func := "wayzgoose/wayzgooselaw02.RoundServes", spec := "roundServes", inPlace := ["(*sync.WaitGroup).Add", "internal/race.ReleaseMerge", "internal/race.Disable", "internal/race.Enable", "internal/synctest.IsInBubble", "internal/synctest.Associate[sync.WaitGroup]", "sync.fatal", "sync/atomic.OrUint64", "sync/atomic.AddUint64", "internal/race.Read", "sync/atomic.LoadUint64", "sync/atomic.StoreUint64", "internal/synctest.Disassociate[sync.WaitGroup]", "sync.runtime_Semrelease", "(*sync.WaitGroup).Done", "(*sync.WaitGroup).Wait", "internal/race.Acquire", "internal/synctest.IsAssociated[sync.WaitGroup]", "sync/atomic.CompareAndSwapUint64", "internal/race.Write", "sync.runtime_SemacquireWaitGroup"], unfollowed := true, recurses := true, plainKeys := false, leaving := true, apart := false }
def RoundServesSaid : Prop := roundServesRow.holds Tryz.pinned (OpenSpec.ofChange roundServesSpec)

/-- ITS FALSE NEIGHBOUR: 'it returns false'. Refute it at one input. -/
def roundServesWrong : ChangeSpec := { name := "roundServes", fn := fun _ => fun
  | [d1, d2, d3, d4, d5, d6, d7, d8] => { results := [.lit (.bool false)], args := [d1, d2, d3, d4, d5, d6, d7, d8] }
  | _ => none }
def RoundServesWrongFalsely : Prop := roundServesRow.holds Tryz.pinned (OpenSpec.ofChange roundServesWrong)

/-- 'wayzgooselaw02.RoundReversed': WHATEVER THE INPUT: true; the input reads as it did. -/
def roundReversedSpec : ChangeSpec := { name := "roundReversed", fn := fun _ => fun
  | [d] => { results := [.lit (.bool true)], args := [d] }
  | _ => none }
def roundReversedRow : OpenClaim := { program := "yteeagjkaflglpaagreat", sum := "839f7afc2b7f112139f86d4bff27111895c5536e90fe0796a5ee8b13eee2eb9e", func := "wayzgoose/wayzgooselaw02.RoundReversed", spec := "roundReversed", inPlace := ["(*sync.WaitGroup).Add", "internal/race.ReleaseMerge", "internal/race.Disable", "internal/race.Enable", "internal/synctest.IsInBubble", "internal/synctest.Associate[sync.WaitGroup]", "sync.fatal", "sync/atomic.OrUint64", "sync/atomic.AddUint64", "internal/race.Read", "sync/atomic.LoadUint64", "sync/atomic.StoreUint64", "internal/synctest.Disassociate[sync.WaitGroup]", "sync.runtime_Semrelease", "(*sync.WaitGroup).Done", "(*sync.WaitGroup).Wait", "internal/race.Acquire", "internal/synctest.IsAssociated[sync.WaitGroup]", "sync/atomic.CompareAndSwapUint64", "internal/race.Write", "sync.runtime_SemacquireWaitGroup"], unfollowed := true, recurses := true, plainKeys := false, leaving := true, apart := false }
def RoundReversedSaid : Prop := roundReversedRow.holds Tryz.pinned (OpenSpec.ofChange roundReversedSpec)

/-- ITS FALSE NEIGHBOUR: 'it returns false'. Refute it at one input. -/
def roundReversedWrong : ChangeSpec := { name := "roundReversed", fn := fun _ => fun
  | [d] => { results := [.lit (.bool false)], args := [d] }
  | _ => none }
def RoundReversedWrongFalsely : Prop := roundReversedRow.holds Tryz.pinned (OpenSpec.ofChange roundReversedWrong)

/-- 'wayzgooselaw02.RoundPlans': WHATEVER THE INPUT: true; the input reads as it did. -/
def roundPlansSpec : ChangeSpec := { name := "roundPlans", fn := fun _ => fun
  | [d1, d2, d3, d4] => { results := [.lit (.bool true)], args := [d1, d2, d3, d4] }
  | _ => none }
def roundPlansRow : OpenClaim := { program := "yteeagjkaflglpaagreat", sum := "839f7afc2b7f112139f86d4bff27111895c5536e90fe0796a5ee8b13eee2eb9e", func := "wayzgoose/wayzgooselaw02.RoundPlans", spec := "roundPlans", inPlace := ["(*sync.WaitGroup).Add", "internal/race.ReleaseMerge", "internal/race.Disable", "internal/race.Enable", "internal/synctest.IsInBubble", "internal/synctest.Associate[sync.WaitGroup]", "sync.fatal", "sync/atomic.OrUint64", "sync/atomic.AddUint64", "internal/race.Read", "sync/atomic.LoadUint64", "sync/atomic.StoreUint64", "internal/synctest.Disassociate[sync.WaitGroup]", "sync.runtime_Semrelease", "(*sync.WaitGroup).Done", "(*sync.WaitGroup).Wait", "internal/race.Acquire", "internal/synctest.IsAssociated[sync.WaitGroup]", "sync/atomic.CompareAndSwapUint64", "internal/race.Write", "sync.runtime_SemacquireWaitGroup"], unfollowed := true, recurses := true, plainKeys := false, leaving := true, apart := false }
def RoundPlansSaid : Prop := roundPlansRow.holds Tryz.pinned (OpenSpec.ofChange roundPlansSpec)

/-- ITS FALSE NEIGHBOUR: 'it returns false'. Refute it at one input. -/
def roundPlansWrong : ChangeSpec := { name := "roundPlans", fn := fun _ => fun
  | [d1, d2, d3, d4] => { results := [.lit (.bool false)], args := [d1, d2, d3, d4] }
  | _ => none }
def RoundPlansWrongFalsely : Prop := roundPlansRow.holds Tryz.pinned (OpenSpec.ofChange roundPlansWrong)

/-- 'wayzgooselaw02.RoundFewest': WHATEVER THE INPUT: true; the input reads as it did. -/
def roundFewestSpec : ChangeSpec := { name := "roundFewest", fn := fun _ => fun
  | [d] => { results := [.lit (.bool true)], args := [d] }
  | _ => none }
def roundFewestRow : OpenClaim := { program := "yteeagjkaflglpaagreat", sum := "839f7afc2b7f112139f86d4bff27111895c5536e90fe0796a5ee8b13eee2eb9e", func := "wayzgoose/wayzgooselaw02.RoundFewest", spec := "roundFewest", inPlace := ["(*sync.WaitGroup).Add", "internal/race.ReleaseMerge", "internal/race.Disable", "internal/race.Enable", "internal/synctest.IsInBubble", "internal/synctest.Associate[sync.WaitGroup]", "sync.fatal", "sync/atomic.OrUint64", "sync/atomic.AddUint64", "internal/race.Read", "sync/atomic.LoadUint64", "sync/atomic.StoreUint64", "internal/synctest.Disassociate[sync.WaitGroup]", "sync.runtime_Semrelease", "(*sync.WaitGroup).Done", "(*sync.WaitGroup).Wait", "internal/race.Acquire", "internal/synctest.IsAssociated[sync.WaitGroup]", "sync/atomic.CompareAndSwapUint64", "internal/race.Write", "sync.runtime_SemacquireWaitGroup"], unfollowed := true, recurses := true, plainKeys := false, leaving := true, apart := false }
def RoundFewestSaid : Prop := roundFewestRow.holds Tryz.pinned (OpenSpec.ofChange roundFewestSpec)

/-- ITS FALSE NEIGHBOUR: 'it returns false'. Refute it at one input. -/
def roundFewestWrong : ChangeSpec := { name := "roundFewest", fn := fun _ => fun
  | [d] => { results := [.lit (.bool false)], args := [d] }
  | _ => none }
def RoundFewestWrongFalsely : Prop := roundFewestRow.holds Tryz.pinned (OpenSpec.ofChange roundFewestWrong)

/-- 'wayzgooselaw02.RoundServed': WHATEVER THE INPUT: true; the input reads as it did. -/
def roundServedSpec : ChangeSpec := { name := "roundServed", fn := fun _ => fun
  | [d] => { results := [.lit (.bool true)], args := [d] }
  | _ => none }
def roundServedRow : OpenClaim := { program := "yteeagjkaflglpaagreat", sum := "839f7afc2b7f112139f86d4bff27111895c5536e90fe0796a5ee8b13eee2eb9e", func := "wayzgoose/wayzgooselaw02.RoundServed", spec := "roundServed", inPlace := ["(*sync.WaitGroup).Add", "internal/race.ReleaseMerge", "internal/race.Disable", "internal/race.Enable", "internal/synctest.IsInBubble", "internal/synctest.Associate[sync.WaitGroup]", "sync.fatal", "sync/atomic.OrUint64", "sync/atomic.AddUint64", "internal/race.Read", "sync/atomic.LoadUint64", "sync/atomic.StoreUint64", "internal/synctest.Disassociate[sync.WaitGroup]", "sync.runtime_Semrelease", "(*sync.WaitGroup).Done", "(*sync.WaitGroup).Wait", "internal/race.Acquire", "internal/synctest.IsAssociated[sync.WaitGroup]", "sync/atomic.CompareAndSwapUint64", "internal/race.Write", "sync.runtime_SemacquireWaitGroup"], unfollowed := true, recurses := true, plainKeys := false, leaving := true, apart := false }
def RoundServedSaid : Prop := roundServedRow.holds Tryz.pinned (OpenSpec.ofChange roundServedSpec)

/-- ITS FALSE NEIGHBOUR: 'it returns false'. Refute it at one input. -/
def roundServedWrong : ChangeSpec := { name := "roundServed", fn := fun _ => fun
  | [d] => { results := [.lit (.bool false)], args := [d] }
  | _ => none }
def RoundServedWrongFalsely : Prop := roundServedRow.holds Tryz.pinned (OpenSpec.ofChange roundServedWrong)

/-- 'wayzgooselaw02.RoundLater': WHATEVER THE INPUT: true; the input reads as it did. -/
def roundLaterSpec : ChangeSpec := { name := "roundLater", fn := fun _ => fun
  | [d] => { results := [.lit (.bool true)], args := [d] }
  | _ => none }
def roundLaterRow : OpenClaim := { program := "yteeagjkaflglpaagreat", sum := "839f7afc2b7f112139f86d4bff27111895c5536e90fe0796a5ee8b13eee2eb9e", func := "wayzgoose/wayzgooselaw02.RoundLater", spec := "roundLater", inPlace := ["(*sync.WaitGroup).Add", "internal/race.ReleaseMerge", "internal/race.Disable", "internal/race.Enable", "internal/synctest.IsInBubble", "internal/synctest.Associate[sync.WaitGroup]", "sync.fatal", "sync/atomic.OrUint64", "sync/atomic.AddUint64", "internal/race.Read", "sync/atomic.LoadUint64", "sync/atomic.StoreUint64", "internal/synctest.Disassociate[sync.WaitGroup]", "sync.runtime_Semrelease", "(*sync.WaitGroup).Done", "(*sync.WaitGroup).Wait", "internal/race.Acquire", "internal/synctest.IsAssociated[sync.WaitGroup]", "sync/atomic.CompareAndSwapUint64", "internal/race.Write", "sync.runtime_SemacquireWaitGroup"], unfollowed := true, recurses := true, plainKeys := false, leaving := true, apart := false }
def RoundLaterSaid : Prop := roundLaterRow.holds Tryz.pinned (OpenSpec.ofChange roundLaterSpec)

/-- ITS FALSE NEIGHBOUR: 'it returns false'. Refute it at one input. -/
def roundLaterWrong : ChangeSpec := { name := "roundLater", fn := fun _ => fun
  | [d] => { results := [.lit (.bool false)], args := [d] }
  | _ => none }
def RoundLaterWrongFalsely : Prop := roundLaterRow.holds Tryz.pinned (OpenSpec.ofChange roundLaterWrong)

/-- 'wayzgooselaw02.RoundLeft': WHATEVER THE INPUT: true; the input reads as it did. -/
def roundLeftSpec : ChangeSpec := { name := "roundLeft", fn := fun _ => fun
  | [d] => { results := [.lit (.bool true)], args := [d] }
  | _ => none }
def roundLeftRow : OpenClaim := { program := "yteeagjkaflglpaagreat", sum := "839f7afc2b7f112139f86d4bff27111895c5536e90fe0796a5ee8b13eee2eb9e", func := "wayzgoose/wayzgooselaw02.RoundLeft", spec := "roundLeft", inPlace := ["(*sync.WaitGroup).Add", "internal/race.ReleaseMerge", "internal/race.Disable", "internal/race.Enable", "internal/synctest.IsInBubble", "internal/synctest.Associate[sync.WaitGroup]", "sync.fatal", "sync/atomic.OrUint64", "sync/atomic.AddUint64", "internal/race.Read", "sync/atomic.LoadUint64", "sync/atomic.StoreUint64", "internal/synctest.Disassociate[sync.WaitGroup]", "sync.runtime_Semrelease", "(*sync.WaitGroup).Done", "(*sync.WaitGroup).Wait", "internal/race.Acquire", "internal/synctest.IsAssociated[sync.WaitGroup]", "sync/atomic.CompareAndSwapUint64", "internal/race.Write", "sync.runtime_SemacquireWaitGroup"], unfollowed := true, recurses := true, plainKeys := false, leaving := true, apart := false }
def RoundLeftSaid : Prop := roundLeftRow.holds Tryz.pinned (OpenSpec.ofChange roundLeftSpec)

/-- ITS FALSE NEIGHBOUR: 'it returns false'. Refute it at one input. -/
def roundLeftWrong : ChangeSpec := { name := "roundLeft", fn := fun _ => fun
  | [d] => { results := [.lit (.bool false)], args := [d] }
  | _ => none }
def RoundLeftWrongFalsely : Prop := roundLeftRow.holds Tryz.pinned (OpenSpec.ofChange roundLeftWrong)

/-- 'wayzgooselaw02.RoundEasier': WHATEVER THE INPUT: true; the input reads as it did. -/
def roundEasierSpec : ChangeSpec := { name := "roundEasier", fn := fun _ => fun
  | [d] => { results := [.lit (.bool true)], args := [d] }
  | _ => none }
def roundEasierRow : OpenClaim := { program := "yteeagjkaflglpaagreat", sum := "839f7afc2b7f112139f86d4bff27111895c5536e90fe0796a5ee8b13eee2eb9e", func := "wayzgoose/wayzgooselaw02.RoundEasier", spec := "roundEasier", inPlace := ["(*sync.WaitGroup).Add", "internal/race.ReleaseMerge", "internal/race.Disable", "internal/race.Enable", "internal/synctest.IsInBubble", "internal/synctest.Associate[sync.WaitGroup]", "sync.fatal", "sync/atomic.OrUint64", "sync/atomic.AddUint64", "internal/race.Read", "sync/atomic.LoadUint64", "sync/atomic.StoreUint64", "internal/synctest.Disassociate[sync.WaitGroup]", "sync.runtime_Semrelease", "(*sync.WaitGroup).Done", "(*sync.WaitGroup).Wait", "internal/race.Acquire", "internal/synctest.IsAssociated[sync.WaitGroup]", "sync/atomic.CompareAndSwapUint64", "internal/race.Write", "sync.runtime_SemacquireWaitGroup"], unfollowed := true, recurses := true, plainKeys := false, leaving := true, apart := false }
def RoundEasierSaid : Prop := roundEasierRow.holds Tryz.pinned (OpenSpec.ofChange roundEasierSpec)

/-- ITS FALSE NEIGHBOUR: 'it returns false'. Refute it at one input. -/
def roundEasierWrong : ChangeSpec := { name := "roundEasier", fn := fun _ => fun
  | [d] => { results := [.lit (.bool false)], args := [d] }
  | _ => none }
def RoundEasierWrongFalsely : Prop := roundEasierRow.holds Tryz.pinned (OpenSpec.ofChange roundEasierWrong)

/-- 'wayzgooselaw02.RoundRenumbered': WHATEVER THE INPUT: true; the input reads as it did. -/
def roundRenumberedSpec : ChangeSpec := { name := "roundRenumbered", fn := fun _ => fun
  | [d] => { results := [.lit (.bool true)], args := [d] }
  | _ => none }
def roundRenumberedRow : OpenClaim := { program := "yteeagjkaflglpaagreat", sum := "839f7afc2b7f112139f86d4bff27111895c5536e90fe0796a5ee8b13eee2eb9e", func := "wayzgoose/wayzgooselaw02.RoundRenumbered", spec := "roundRenumbered", inPlace := ["(*sync.WaitGroup).Add", "internal/race.ReleaseMerge", "internal/race.Disable", "internal/race.Enable", "internal/synctest.IsInBubble", "internal/synctest.Associate[sync.WaitGroup]", "sync.fatal", "sync/atomic.OrUint64", "sync/atomic.AddUint64", "internal/race.Read", "sync/atomic.LoadUint64", "sync/atomic.StoreUint64", "internal/synctest.Disassociate[sync.WaitGroup]", "sync.runtime_Semrelease", "(*sync.WaitGroup).Done", "(*sync.WaitGroup).Wait", "internal/race.Acquire", "internal/synctest.IsAssociated[sync.WaitGroup]", "sync/atomic.CompareAndSwapUint64", "internal/race.Write", "sync.runtime_SemacquireWaitGroup"], unfollowed := true, recurses := true, plainKeys := false, leaving := true, apart := false }
def RoundRenumberedSaid : Prop := roundRenumberedRow.holds Tryz.pinned (OpenSpec.ofChange roundRenumberedSpec)

/-- ITS FALSE NEIGHBOUR: 'it returns false'. Refute it at one input. -/
def roundRenumberedWrong : ChangeSpec := { name := "roundRenumbered", fn := fun _ => fun
  | [d] => { results := [.lit (.bool false)], args := [d] }
  | _ => none }
def RoundRenumberedWrongFalsely : Prop := roundRenumberedRow.holds Tryz.pinned (OpenSpec.ofChange roundRenumberedWrong)

/-- 'wayzgooselaw02.RoundLost': WHATEVER THE INPUT: true; the input reads as it did. -/
def roundLostSpec : ChangeSpec := { name := "roundLost", fn := fun _ => fun
  | [d] => { results := [.lit (.bool true)], args := [d] }
  | _ => none }
def roundLostRow : OpenClaim := { program := "yteeagjkaflglpaagreat", sum := "839f7afc2b7f112139f86d4bff27111895c5536e90fe0796a5ee8b13eee2eb9e", func := "wayzgoose/wayzgooselaw02.RoundLost", spec := "roundLost", inPlace := ["(*sync.WaitGroup).Add", "internal/race.ReleaseMerge", "internal/race.Disable", "internal/race.Enable", "internal/synctest.IsInBubble", "internal/synctest.Associate[sync.WaitGroup]", "sync.fatal", "sync/atomic.OrUint64", "sync/atomic.AddUint64", "internal/race.Read", "sync/atomic.LoadUint64", "sync/atomic.StoreUint64", "internal/synctest.Disassociate[sync.WaitGroup]", "sync.runtime_Semrelease", "(*sync.WaitGroup).Done", "(*sync.WaitGroup).Wait", "internal/race.Acquire", "internal/synctest.IsAssociated[sync.WaitGroup]", "sync/atomic.CompareAndSwapUint64", "internal/race.Write", "sync.runtime_SemacquireWaitGroup"], unfollowed := true, recurses := true, plainKeys := false, leaving := true, apart := false }
def RoundLostSaid : Prop := roundLostRow.holds Tryz.pinned (OpenSpec.ofChange roundLostSpec)

/-- ITS FALSE NEIGHBOUR: 'it returns false'. Refute it at one input. -/
def roundLostWrong : ChangeSpec := { name := "roundLost", fn := fun _ => fun
  | [d] => { results := [.lit (.bool false)], args := [d] }
  | _ => none }
def RoundLostWrongFalsely : Prop := roundLostRow.holds Tryz.pinned (OpenSpec.ofChange roundLostWrong)

/-- 'wayzgooselaw02.RoundBegins': WHATEVER THE INPUT: true; the input reads as it did. -/
def roundBeginsSpec : ChangeSpec := { name := "roundBegins", fn := fun _ => fun
  | [d1, d2, d3, d4, d5] => { results := [.lit (.bool true)], args := [d1, d2, d3, d4, d5] }
  | _ => none }
def roundBeginsRow : OpenClaim := { program := "yteeagjkaflglpaagreat", sum := "839f7afc2b7f112139f86d4bff27111895c5536e90fe0796a5ee8b13eee2eb9e", func := "wayzgoose/wayzgooselaw02.RoundBegins", spec := "roundBegins", inPlace := ["(*sync.WaitGroup).Add", "internal/race.ReleaseMerge", "internal/race.Disable", "internal/race.Enable", "internal/synctest.IsInBubble", "internal/synctest.Associate[sync.WaitGroup]", "sync.fatal", "sync/atomic.OrUint64", "sync/atomic.AddUint64", "internal/race.Read", "sync/atomic.LoadUint64", "sync/atomic.StoreUint64", "internal/synctest.Disassociate[sync.WaitGroup]", "sync.runtime_Semrelease", "(*sync.WaitGroup).Done", "(*sync.WaitGroup).Wait", "internal/race.Acquire", "internal/synctest.IsAssociated[sync.WaitGroup]", "sync/atomic.CompareAndSwapUint64", "internal/race.Write", "sync.runtime_SemacquireWaitGroup"], unfollowed := true, recurses := true, plainKeys := false, leaving := true, apart := false }
def RoundBeginsSaid : Prop := roundBeginsRow.holds Tryz.pinned (OpenSpec.ofChange roundBeginsSpec)

/-- ITS FALSE NEIGHBOUR: 'it returns false'. Refute it at one input. -/
def roundBeginsWrong : ChangeSpec := { name := "roundBegins", fn := fun _ => fun
  | [d1, d2, d3, d4, d5] => { results := [.lit (.bool false)], args := [d1, d2, d3, d4, d5] }
  | _ => none }
def RoundBeginsWrongFalsely : Prop := roundBeginsRow.holds Tryz.pinned (OpenSpec.ofChange roundBeginsWrong)

/-- 'wayzgooselaw02.RoundShortest': WHATEVER THE INPUT: true; the input reads as it did. -/
def roundShortestSpec : ChangeSpec := { name := "roundShortest", fn := fun _ => fun
  | [d] => { results := [.lit (.bool true)], args := [d] }
  | _ => none }
def roundShortestRow : OpenClaim := { program := "yteeagjkaflglpaagreat", sum := "839f7afc2b7f112139f86d4bff27111895c5536e90fe0796a5ee8b13eee2eb9e", func := "wayzgoose/wayzgooselaw02.RoundShortest", spec := "roundShortest", inPlace := ["(*sync.WaitGroup).Add", "internal/race.ReleaseMerge", "internal/race.Disable", "internal/race.Enable", "internal/synctest.IsInBubble", "internal/synctest.Associate[sync.WaitGroup]", "sync.fatal", "sync/atomic.OrUint64", "sync/atomic.AddUint64", "internal/race.Read", "sync/atomic.LoadUint64", "sync/atomic.StoreUint64", "internal/synctest.Disassociate[sync.WaitGroup]", "sync.runtime_Semrelease", "(*sync.WaitGroup).Done", "(*sync.WaitGroup).Wait", "internal/race.Acquire", "internal/synctest.IsAssociated[sync.WaitGroup]", "sync/atomic.CompareAndSwapUint64", "internal/race.Write", "sync.runtime_SemacquireWaitGroup"], unfollowed := true, recurses := true, plainKeys := false, leaving := true, apart := false }
def RoundShortestSaid : Prop := roundShortestRow.holds Tryz.pinned (OpenSpec.ofChange roundShortestSpec)

/-- ITS FALSE NEIGHBOUR: 'it returns false'. Refute it at one input. -/
def roundShortestWrong : ChangeSpec := { name := "roundShortest", fn := fun _ => fun
  | [d] => { results := [.lit (.bool false)], args := [d] }
  | _ => none }
def RoundShortestWrongFalsely : Prop := roundShortestRow.holds Tryz.pinned (OpenSpec.ofChange roundShortestWrong)

/-- 'wayzgooselaw02.RoundDivided': WHATEVER THE INPUT: true; the input reads as it did. -/
def roundDividedSpec : ChangeSpec := { name := "roundDivided", fn := fun _ => fun
  | [d] => { results := [.lit (.bool true)], args := [d] }
  | _ => none }
def roundDividedRow : OpenClaim := { program := "yteeagjkaflglpaagreat", sum := "839f7afc2b7f112139f86d4bff27111895c5536e90fe0796a5ee8b13eee2eb9e", func := "wayzgoose/wayzgooselaw02.RoundDivided", spec := "roundDivided", inPlace := ["(*sync.WaitGroup).Add", "internal/race.ReleaseMerge", "internal/race.Disable", "internal/race.Enable", "internal/synctest.IsInBubble", "internal/synctest.Associate[sync.WaitGroup]", "sync.fatal", "sync/atomic.OrUint64", "sync/atomic.AddUint64", "internal/race.Read", "sync/atomic.LoadUint64", "sync/atomic.StoreUint64", "internal/synctest.Disassociate[sync.WaitGroup]", "sync.runtime_Semrelease", "(*sync.WaitGroup).Done", "(*sync.WaitGroup).Wait", "internal/race.Acquire", "internal/synctest.IsAssociated[sync.WaitGroup]", "sync/atomic.CompareAndSwapUint64", "internal/race.Write", "sync.runtime_SemacquireWaitGroup"], unfollowed := true, recurses := true, plainKeys := false, leaving := true, apart := false }
def RoundDividedSaid : Prop := roundDividedRow.holds Tryz.pinned (OpenSpec.ofChange roundDividedSpec)

/-- ITS FALSE NEIGHBOUR: 'it returns false'. Refute it at one input. -/
def roundDividedWrong : ChangeSpec := { name := "roundDivided", fn := fun _ => fun
  | [d] => { results := [.lit (.bool false)], args := [d] }
  | _ => none }
def RoundDividedWrongFalsely : Prop := roundDividedRow.holds Tryz.pinned (OpenSpec.ofChange roundDividedWrong)

/-- 'wayzgooselaw02.RoundTakes': WHATEVER THE INPUT: true; the input reads as it did. -/
def roundTakesSpec : ChangeSpec := { name := "roundTakes", fn := fun _ => fun
  | [d] => { results := [.lit (.bool true)], args := [d] }
  | _ => none }
def roundTakesRow : OpenClaim := { program := "yteeagjkaflglpaagreat", sum := "839f7afc2b7f112139f86d4bff27111895c5536e90fe0796a5ee8b13eee2eb9e", func := "wayzgoose/wayzgooselaw02.RoundTakes", spec := "roundTakes", inPlace := ["(*sync.WaitGroup).Add", "internal/race.ReleaseMerge", "internal/race.Disable", "internal/race.Enable", "internal/synctest.IsInBubble", "internal/synctest.Associate[sync.WaitGroup]", "sync.fatal", "sync/atomic.OrUint64", "sync/atomic.AddUint64", "internal/race.Read", "sync/atomic.LoadUint64", "sync/atomic.StoreUint64", "internal/synctest.Disassociate[sync.WaitGroup]", "sync.runtime_Semrelease", "(*sync.WaitGroup).Done", "(*sync.WaitGroup).Wait", "internal/race.Acquire", "internal/synctest.IsAssociated[sync.WaitGroup]", "sync/atomic.CompareAndSwapUint64", "internal/race.Write", "sync.runtime_SemacquireWaitGroup"], unfollowed := true, recurses := true, plainKeys := false, leaving := true, apart := false }
def RoundTakesSaid : Prop := roundTakesRow.holds Tryz.pinned (OpenSpec.ofChange roundTakesSpec)

/-- ITS FALSE NEIGHBOUR: 'it returns false'. Refute it at one input. -/
def roundTakesWrong : ChangeSpec := { name := "roundTakes", fn := fun _ => fun
  | [d] => { results := [.lit (.bool false)], args := [d] }
  | _ => none }
def RoundTakesWrongFalsely : Prop := roundTakesRow.holds Tryz.pinned (OpenSpec.ofChange roundTakesWrong)

/-- 'wayzgooselaw02.RoundDue': WHATEVER THE INPUT: true; the input reads as it did. -/
def roundDueSpec : ChangeSpec := { name := "roundDue", fn := fun _ => fun
  | [d] => { results := [.lit (.bool true)], args := [d] }
  | _ => none }
def roundDueRow : OpenClaim := { program := "yteeagjkaflglpaagreat", sum := "839f7afc2b7f112139f86d4bff27111895c5536e90fe0796a5ee8b13eee2eb9e", func := "wayzgoose/wayzgooselaw02.RoundDue", spec := "roundDue", inPlace := ["(*sync.WaitGroup).Add", "internal/race.ReleaseMerge", "internal/race.Disable", "internal/race.Enable", "internal/synctest.IsInBubble", "internal/synctest.Associate[sync.WaitGroup]", "sync.fatal", "sync/atomic.OrUint64", "sync/atomic.AddUint64", "internal/race.Read", "sync/atomic.LoadUint64", "sync/atomic.StoreUint64", "internal/synctest.Disassociate[sync.WaitGroup]", "sync.runtime_Semrelease", "(*sync.WaitGroup).Done", "(*sync.WaitGroup).Wait", "internal/race.Acquire", "internal/synctest.IsAssociated[sync.WaitGroup]", "sync/atomic.CompareAndSwapUint64", "internal/race.Write", "sync.runtime_SemacquireWaitGroup"], unfollowed := true, recurses := true, plainKeys := false, leaving := true, apart := false }
def RoundDueSaid : Prop := roundDueRow.holds Tryz.pinned (OpenSpec.ofChange roundDueSpec)

/-- ITS FALSE NEIGHBOUR: 'it returns false'. Refute it at one input. -/
def roundDueWrong : ChangeSpec := { name := "roundDue", fn := fun _ => fun
  | [d] => { results := [.lit (.bool false)], args := [d] }
  | _ => none }
def RoundDueWrongFalsely : Prop := roundDueRow.holds Tryz.pinned (OpenSpec.ofChange roundDueWrong)

/-- 'wayzgooselaw02.RoundAfter': WHATEVER THE INPUT: true; the input reads as it did. -/
def roundAfterSpec : ChangeSpec := { name := "roundAfter", fn := fun _ => fun
  | [d1, d2, d3, d4, d5, d6, d7] => { results := [.lit (.bool true)], args := [d1, d2, d3, d4, d5, d6, d7] }
  | _ => none }
def roundAfterRow : OpenClaim := { program := "yteeagjkaflglpaagreat", sum := "839f7afc2b7f112139f86d4bff27111895c5536e90fe0796a5ee8b13eee2eb9e", func := "wayzgoose/wayzgooselaw02.RoundAfter", spec := "roundAfter", inPlace := ["(*sync.WaitGroup).Add", "internal/race.ReleaseMerge", "internal/race.Disable", "internal/race.Enable", "internal/synctest.IsInBubble", "internal/synctest.Associate[sync.WaitGroup]", "sync.fatal", "sync/atomic.OrUint64", "sync/atomic.AddUint64", "internal/race.Read", "sync/atomic.LoadUint64", "sync/atomic.StoreUint64", "internal/synctest.Disassociate[sync.WaitGroup]", "sync.runtime_Semrelease", "(*sync.WaitGroup).Done", "(*sync.WaitGroup).Wait", "internal/race.Acquire", "internal/synctest.IsAssociated[sync.WaitGroup]", "sync/atomic.CompareAndSwapUint64", "internal/race.Write", "sync.runtime_SemacquireWaitGroup"], unfollowed := true, recurses := true, plainKeys := false, leaving := true, apart := false }
def RoundAfterSaid : Prop := roundAfterRow.holds Tryz.pinned (OpenSpec.ofChange roundAfterSpec)

/-- ITS FALSE NEIGHBOUR: 'it returns false'. Refute it at one input. -/
def roundAfterWrong : ChangeSpec := { name := "roundAfter", fn := fun _ => fun
  | [d1, d2, d3, d4, d5, d6, d7] => { results := [.lit (.bool false)], args := [d1, d2, d3, d4, d5, d6, d7] }
  | _ => none }
def RoundAfterWrongFalsely : Prop := roundAfterRow.holds Tryz.pinned (OpenSpec.ofChange roundAfterWrong)

/-- 'wayzgooselaw02.RoundLast': WHATEVER THE INPUT: true; the input reads as it did. -/
def roundLastSpec : ChangeSpec := { name := "roundLast", fn := fun _ => fun
  | [d] => { results := [.lit (.bool true)], args := [d] }
  | _ => none }
def roundLastRow : OpenClaim := { program := "yteeagjkaflglpaagreat", sum := "839f7afc2b7f112139f86d4bff27111895c5536e90fe0796a5ee8b13eee2eb9e", func := "wayzgoose/wayzgooselaw02.RoundLast", spec := "roundLast", inPlace := ["(*sync.WaitGroup).Add", "internal/race.ReleaseMerge", "internal/race.Disable", "internal/race.Enable", "internal/synctest.IsInBubble", "internal/synctest.Associate[sync.WaitGroup]", "sync.fatal", "sync/atomic.OrUint64", "sync/atomic.AddUint64", "internal/race.Read", "sync/atomic.LoadUint64", "sync/atomic.StoreUint64", "internal/synctest.Disassociate[sync.WaitGroup]", "sync.runtime_Semrelease", "(*sync.WaitGroup).Done", "(*sync.WaitGroup).Wait", "internal/race.Acquire", "internal/synctest.IsAssociated[sync.WaitGroup]", "sync/atomic.CompareAndSwapUint64", "internal/race.Write", "sync.runtime_SemacquireWaitGroup"], unfollowed := true, recurses := true, plainKeys := false, leaving := true, apart := false }
def RoundLastSaid : Prop := roundLastRow.holds Tryz.pinned (OpenSpec.ofChange roundLastSpec)

/-- ITS FALSE NEIGHBOUR: 'it returns false'. Refute it at one input. -/
def roundLastWrong : ChangeSpec := { name := "roundLast", fn := fun _ => fun
  | [d] => { results := [.lit (.bool false)], args := [d] }
  | _ => none }
def RoundLastWrongFalsely : Prop := roundLastRow.holds Tryz.pinned (OpenSpec.ofChange roundLastWrong)

/-- 'wayzgooselaw02.RoundLogs': WHATEVER THE INPUT: true; the input reads as it did. -/
def roundLogsSpec : ChangeSpec := { name := "roundLogs", fn := fun _ => fun
  | [d1, d2, d3, d4, d5] => { results := [.lit (.bool true)], args := [d1, d2, d3, d4, d5] }
  | _ => none }
def roundLogsRow : OpenClaim := { program := "yteeagjkaflglpaagreat", sum := "839f7afc2b7f112139f86d4bff27111895c5536e90fe0796a5ee8b13eee2eb9e", func := "wayzgoose/wayzgooselaw02.RoundLogs", spec := "roundLogs", inPlace := ["(*sync.WaitGroup).Add", "internal/race.ReleaseMerge", "internal/race.Disable", "internal/race.Enable", "internal/synctest.IsInBubble", "internal/synctest.Associate[sync.WaitGroup]", "sync.fatal", "sync/atomic.OrUint64", "sync/atomic.AddUint64", "internal/race.Read", "sync/atomic.LoadUint64", "sync/atomic.StoreUint64", "internal/synctest.Disassociate[sync.WaitGroup]", "sync.runtime_Semrelease", "(*sync.WaitGroup).Done", "(*sync.WaitGroup).Wait", "internal/race.Acquire", "internal/synctest.IsAssociated[sync.WaitGroup]", "sync/atomic.CompareAndSwapUint64", "internal/race.Write", "sync.runtime_SemacquireWaitGroup"], unfollowed := true, recurses := true, plainKeys := false, leaving := true, apart := false }
def RoundLogsSaid : Prop := roundLogsRow.holds Tryz.pinned (OpenSpec.ofChange roundLogsSpec)

/-- ITS FALSE NEIGHBOUR: 'it returns false'. Refute it at one input. -/
def roundLogsWrong : ChangeSpec := { name := "roundLogs", fn := fun _ => fun
  | [d1, d2, d3, d4, d5] => { results := [.lit (.bool false)], args := [d1, d2, d3, d4, d5] }
  | _ => none }
def RoundLogsWrongFalsely : Prop := roundLogsRow.holds Tryz.pinned (OpenSpec.ofChange roundLogsWrong)

/-- 'wayzgooselaw02.RoundWalks': WHATEVER THE INPUT: true; the input reads as it did. -/
def roundWalksSpec : ChangeSpec := { name := "roundWalks", fn := fun _ => fun
  | [d1, d2, d3, d4, d5, d6, d7] => { results := [.lit (.bool true)], args := [d1, d2, d3, d4, d5, d6, d7] }
  | _ => none }
def roundWalksRow : OpenClaim := { program := "yteeagjkaflglpaagreat", sum := "839f7afc2b7f112139f86d4bff27111895c5536e90fe0796a5ee8b13eee2eb9e", func := "wayzgoose/wayzgooselaw02.RoundWalks", spec := "roundWalks", inPlace := ["(*sync.WaitGroup).Add", "internal/race.ReleaseMerge", "internal/race.Disable", "internal/race.Enable", "internal/synctest.IsInBubble", "internal/synctest.Associate[sync.WaitGroup]", "sync.fatal", "sync/atomic.OrUint64", "sync/atomic.AddUint64", "internal/race.Read", "sync/atomic.LoadUint64", "sync/atomic.StoreUint64", "internal/synctest.Disassociate[sync.WaitGroup]", "sync.runtime_Semrelease", "(*sync.WaitGroup).Done", "(*sync.WaitGroup).Wait", "internal/race.Acquire", "internal/synctest.IsAssociated[sync.WaitGroup]", "sync/atomic.CompareAndSwapUint64", "internal/race.Write", "sync.runtime_SemacquireWaitGroup"], unfollowed := true, recurses := true, plainKeys := false, leaving := true, apart := false }
def RoundWalksSaid : Prop := roundWalksRow.holds Tryz.pinned (OpenSpec.ofChange roundWalksSpec)

/-- ITS FALSE NEIGHBOUR: 'it returns false'. Refute it at one input. -/
def roundWalksWrong : ChangeSpec := { name := "roundWalks", fn := fun _ => fun
  | [d1, d2, d3, d4, d5, d6, d7] => { results := [.lit (.bool false)], args := [d1, d2, d3, d4, d5, d6, d7] }
  | _ => none }
def RoundWalksWrongFalsely : Prop := roundWalksRow.holds Tryz.pinned (OpenSpec.ofChange roundWalksWrong)

/-- 'wayzgooselaw02.RoundNews': WHATEVER THE INPUT: true; the input reads as it did. -/
def roundNewsSpec : ChangeSpec := { name := "roundNews", fn := fun _ => fun
  | [d] => { results := [.lit (.bool true)], args := [d] }
  | _ => none }
def roundNewsRow : OpenClaim := { program := "yteeagjkaflglpaagreat", sum := "839f7afc2b7f112139f86d4bff27111895c5536e90fe0796a5ee8b13eee2eb9e", func := "wayzgoose/wayzgooselaw02.RoundNews", spec := "roundNews", inPlace := ["(*sync.WaitGroup).Add", "internal/race.ReleaseMerge", "internal/race.Disable", "internal/race.Enable", "internal/synctest.IsInBubble", "internal/synctest.Associate[sync.WaitGroup]", "sync.fatal", "sync/atomic.OrUint64", "sync/atomic.AddUint64", "internal/race.Read", "sync/atomic.LoadUint64", "sync/atomic.StoreUint64", "internal/synctest.Disassociate[sync.WaitGroup]", "sync.runtime_Semrelease", "(*sync.WaitGroup).Done", "(*sync.WaitGroup).Wait", "internal/race.Acquire", "internal/synctest.IsAssociated[sync.WaitGroup]", "sync/atomic.CompareAndSwapUint64", "internal/race.Write", "sync.runtime_SemacquireWaitGroup"], unfollowed := true, recurses := true, plainKeys := false, leaving := true, apart := false }
def RoundNewsSaid : Prop := roundNewsRow.holds Tryz.pinned (OpenSpec.ofChange roundNewsSpec)

/-- ITS FALSE NEIGHBOUR: 'it returns false'. Refute it at one input. -/
def roundNewsWrong : ChangeSpec := { name := "roundNews", fn := fun _ => fun
  | [d] => { results := [.lit (.bool false)], args := [d] }
  | _ => none }
def RoundNewsWrongFalsely : Prop := roundNewsRow.holds Tryz.pinned (OpenSpec.ofChange roundNewsWrong)

/-- 'wayzgooselaw02.RoundWalked': WHATEVER THE INPUT: true; the input reads as it did. -/
def roundWalkedSpec : ChangeSpec := { name := "roundWalked", fn := fun _ => fun
  | [d] => { results := [.lit (.bool true)], args := [d] }
  | _ => none }
def roundWalkedRow : OpenClaim := { program := "yteeagjkaflglpaagreat", sum := "839f7afc2b7f112139f86d4bff27111895c5536e90fe0796a5ee8b13eee2eb9e", func := "wayzgoose/wayzgooselaw02.RoundWalked", spec := "roundWalked", inPlace := ["(*sync.WaitGroup).Add", "internal/race.ReleaseMerge", "internal/race.Disable", "internal/race.Enable", "internal/synctest.IsInBubble", "internal/synctest.Associate[sync.WaitGroup]", "sync.fatal", "sync/atomic.OrUint64", "sync/atomic.AddUint64", "internal/race.Read", "sync/atomic.LoadUint64", "sync/atomic.StoreUint64", "internal/synctest.Disassociate[sync.WaitGroup]", "sync.runtime_Semrelease", "(*sync.WaitGroup).Done", "(*sync.WaitGroup).Wait", "internal/race.Acquire", "internal/synctest.IsAssociated[sync.WaitGroup]", "sync/atomic.CompareAndSwapUint64", "internal/race.Write", "sync.runtime_SemacquireWaitGroup"], unfollowed := true, recurses := true, plainKeys := false, leaving := true, apart := false }
def RoundWalkedSaid : Prop := roundWalkedRow.holds Tryz.pinned (OpenSpec.ofChange roundWalkedSpec)

/-- ITS FALSE NEIGHBOUR: 'it returns false'. Refute it at one input. -/
def roundWalkedWrong : ChangeSpec := { name := "roundWalked", fn := fun _ => fun
  | [d] => { results := [.lit (.bool false)], args := [d] }
  | _ => none }
def RoundWalkedWrongFalsely : Prop := roundWalkedRow.holds Tryz.pinned (OpenSpec.ofChange roundWalkedWrong)

/-- 'wayzgooselaw02.RoundKnown': WHATEVER THE INPUT: true; the input reads as it did. -/
def roundKnownSpec : ChangeSpec := { name := "roundKnown", fn := fun _ => fun
  | [] => { results := [.lit (.bool true)], args := [] }
  | _ => none }
def roundKnownRow : OpenClaim := { program := "yteeagjkaflglpaagreat", sum := "839f7afc2b7f112139f86d4bff27111895c5536e90fe0796a5ee8b13eee2eb9e", func := "wayzgoose/wayzgooselaw02.RoundKnown", spec := "roundKnown", inPlace := ["(*sync.WaitGroup).Add", "internal/race.ReleaseMerge", "internal/race.Disable", "internal/race.Enable", "internal/synctest.IsInBubble", "internal/synctest.Associate[sync.WaitGroup]", "sync.fatal", "sync/atomic.OrUint64", "sync/atomic.AddUint64", "internal/race.Read", "sync/atomic.LoadUint64", "sync/atomic.StoreUint64", "internal/synctest.Disassociate[sync.WaitGroup]", "sync.runtime_Semrelease", "(*sync.WaitGroup).Done", "(*sync.WaitGroup).Wait", "internal/race.Acquire", "internal/synctest.IsAssociated[sync.WaitGroup]", "sync/atomic.CompareAndSwapUint64", "internal/race.Write", "sync.runtime_SemacquireWaitGroup"], unfollowed := true, recurses := true, plainKeys := false, leaving := true, apart := false }
def RoundKnownSaid : Prop := roundKnownRow.holds Tryz.pinned (OpenSpec.ofChange roundKnownSpec)

/-- ITS FALSE NEIGHBOUR: 'it returns false'. Refute it at one input. -/
def roundKnownWrong : ChangeSpec := { name := "roundKnown", fn := fun _ => fun
  | [] => { results := [.lit (.bool false)], args := [] }
  | _ => none }
def RoundKnownWrongFalsely : Prop := roundKnownRow.holds Tryz.pinned (OpenSpec.ofChange roundKnownWrong)

/- THE SECOND FORM. 'bulk': how many values and letters a reading holds, each counted each time it is reached (what is shared counts as often as it is met; a slice's spare places count too). A statement '..UptoSaid' is the law's where the arguments, and the package variables that the reading takes, are together of bulk at most 1048576: NARROWER than '..Said'. Prove '..Said' where nothing that the law and all that it calls make is longer than what came in: it says more and counts as full. Else prove '..UptoSaid'. A law counts once. -/
mutual
def uptoBulk {H : Type} : DataW H → Nat
  | .lit (.string bytes) => bytes.length + 1
  | .lit _ => 1
  | .nil => 1
  | .ptr d => uptoBulk d + 1
  | .slice elems spare => uptoBulkAll elems + uptoBulkAll spare + 1
  | .agg parts => uptoBulkAll parts + 1
  | .iface _ d => uptoBulk d + 1
  | .map entries => uptoBulkEntries entries + 1
  | .held _ => 1
def uptoBulkAll {H : Type} : List (DataW H) → Nat
  | [] => 0
  | d :: r => uptoBulk d + uptoBulkAll r
def uptoBulkEntries {H : Type} : List (Lit × DataW H) → Nat
  | [] => 0
  | x :: r => uptoBulkEntry x + uptoBulkEntries r
def uptoBulkEntry {H : Type} : Lit × DataW H → Nat
  | (.string bytes, d) => bytes.length + uptoBulk d + 1
  | (_, d) => uptoBulk d + 1
 end
def uptoSmall : (H : Type) → List (DataW H) → Bool := fun _ ds => decide (uptoBulkAll ds ≤ 1048576)
def OpenSpec.upto (s : _root_.Go.ChangeSpec) : _root_.Go.OpenSpec := { _root_.Go.OpenSpec.ofChange s with cond := some uptoSmall }

/-- 'wayzgooselaw02.RoundServes', WHERE WHAT IT READS IS OF BULK AT MOST 1048576: true; the input reads as it did. -/
def roundServesUptoRow : OpenClaim := { program := "yteeagjkaflglpaagreat", sum := "839f7afc2b7f112139f86d4bff27111895c5536e90fe0796a5ee8b13eee2eb9e", func := "wayzgoose/wayzgooselaw02.RoundServes", spec := "roundServes", inPlace := ["(*sync.WaitGroup).Add", "internal/race.ReleaseMerge", "internal/race.Disable", "internal/race.Enable", "internal/synctest.IsInBubble", "internal/synctest.Associate[sync.WaitGroup]", "sync.fatal", "sync/atomic.OrUint64", "sync/atomic.AddUint64", "internal/race.Read", "sync/atomic.LoadUint64", "sync/atomic.StoreUint64", "internal/synctest.Disassociate[sync.WaitGroup]", "sync.runtime_Semrelease", "(*sync.WaitGroup).Done", "(*sync.WaitGroup).Wait", "internal/race.Acquire", "internal/synctest.IsAssociated[sync.WaitGroup]", "sync/atomic.CompareAndSwapUint64", "internal/race.Write", "sync.runtime_SemacquireWaitGroup"], unfollowed := true, recurses := true, plainKeys := false, leaving := true, apart := false, narrowed := true }
def RoundServesUptoSaid : Prop := roundServesUptoRow.holds Tryz.pinned (OpenSpec.upto roundServesSpec)

/-- 'wayzgooselaw02.RoundReversed', WHERE WHAT IT READS IS OF BULK AT MOST 1048576: true; the input reads as it did. -/
def roundReversedUptoRow : OpenClaim := { program := "yteeagjkaflglpaagreat", sum := "839f7afc2b7f112139f86d4bff27111895c5536e90fe0796a5ee8b13eee2eb9e", func := "wayzgoose/wayzgooselaw02.RoundReversed", spec := "roundReversed", inPlace := ["(*sync.WaitGroup).Add", "internal/race.ReleaseMerge", "internal/race.Disable", "internal/race.Enable", "internal/synctest.IsInBubble", "internal/synctest.Associate[sync.WaitGroup]", "sync.fatal", "sync/atomic.OrUint64", "sync/atomic.AddUint64", "internal/race.Read", "sync/atomic.LoadUint64", "sync/atomic.StoreUint64", "internal/synctest.Disassociate[sync.WaitGroup]", "sync.runtime_Semrelease", "(*sync.WaitGroup).Done", "(*sync.WaitGroup).Wait", "internal/race.Acquire", "internal/synctest.IsAssociated[sync.WaitGroup]", "sync/atomic.CompareAndSwapUint64", "internal/race.Write", "sync.runtime_SemacquireWaitGroup"], unfollowed := true, recurses := true, plainKeys := false, leaving := true, apart := false, narrowed := true }
def RoundReversedUptoSaid : Prop := roundReversedUptoRow.holds Tryz.pinned (OpenSpec.upto roundReversedSpec)

/-- 'wayzgooselaw02.RoundPlans', WHERE WHAT IT READS IS OF BULK AT MOST 1048576: true; the input reads as it did. -/
def roundPlansUptoRow : OpenClaim := { program := "yteeagjkaflglpaagreat", sum := "839f7afc2b7f112139f86d4bff27111895c5536e90fe0796a5ee8b13eee2eb9e", func := "wayzgoose/wayzgooselaw02.RoundPlans", spec := "roundPlans", inPlace := ["(*sync.WaitGroup).Add", "internal/race.ReleaseMerge", "internal/race.Disable", "internal/race.Enable", "internal/synctest.IsInBubble", "internal/synctest.Associate[sync.WaitGroup]", "sync.fatal", "sync/atomic.OrUint64", "sync/atomic.AddUint64", "internal/race.Read", "sync/atomic.LoadUint64", "sync/atomic.StoreUint64", "internal/synctest.Disassociate[sync.WaitGroup]", "sync.runtime_Semrelease", "(*sync.WaitGroup).Done", "(*sync.WaitGroup).Wait", "internal/race.Acquire", "internal/synctest.IsAssociated[sync.WaitGroup]", "sync/atomic.CompareAndSwapUint64", "internal/race.Write", "sync.runtime_SemacquireWaitGroup"], unfollowed := true, recurses := true, plainKeys := false, leaving := true, apart := false, narrowed := true }
def RoundPlansUptoSaid : Prop := roundPlansUptoRow.holds Tryz.pinned (OpenSpec.upto roundPlansSpec)

/-- 'wayzgooselaw02.RoundFewest', WHERE WHAT IT READS IS OF BULK AT MOST 1048576: true; the input reads as it did. -/
def roundFewestUptoRow : OpenClaim := { program := "yteeagjkaflglpaagreat", sum := "839f7afc2b7f112139f86d4bff27111895c5536e90fe0796a5ee8b13eee2eb9e", func := "wayzgoose/wayzgooselaw02.RoundFewest", spec := "roundFewest", inPlace := ["(*sync.WaitGroup).Add", "internal/race.ReleaseMerge", "internal/race.Disable", "internal/race.Enable", "internal/synctest.IsInBubble", "internal/synctest.Associate[sync.WaitGroup]", "sync.fatal", "sync/atomic.OrUint64", "sync/atomic.AddUint64", "internal/race.Read", "sync/atomic.LoadUint64", "sync/atomic.StoreUint64", "internal/synctest.Disassociate[sync.WaitGroup]", "sync.runtime_Semrelease", "(*sync.WaitGroup).Done", "(*sync.WaitGroup).Wait", "internal/race.Acquire", "internal/synctest.IsAssociated[sync.WaitGroup]", "sync/atomic.CompareAndSwapUint64", "internal/race.Write", "sync.runtime_SemacquireWaitGroup"], unfollowed := true, recurses := true, plainKeys := false, leaving := true, apart := false, narrowed := true }
def RoundFewestUptoSaid : Prop := roundFewestUptoRow.holds Tryz.pinned (OpenSpec.upto roundFewestSpec)

/-- 'wayzgooselaw02.RoundServed', WHERE WHAT IT READS IS OF BULK AT MOST 1048576: true; the input reads as it did. -/
def roundServedUptoRow : OpenClaim := { program := "yteeagjkaflglpaagreat", sum := "839f7afc2b7f112139f86d4bff27111895c5536e90fe0796a5ee8b13eee2eb9e", func := "wayzgoose/wayzgooselaw02.RoundServed", spec := "roundServed", inPlace := ["(*sync.WaitGroup).Add", "internal/race.ReleaseMerge", "internal/race.Disable", "internal/race.Enable", "internal/synctest.IsInBubble", "internal/synctest.Associate[sync.WaitGroup]", "sync.fatal", "sync/atomic.OrUint64", "sync/atomic.AddUint64", "internal/race.Read", "sync/atomic.LoadUint64", "sync/atomic.StoreUint64", "internal/synctest.Disassociate[sync.WaitGroup]", "sync.runtime_Semrelease", "(*sync.WaitGroup).Done", "(*sync.WaitGroup).Wait", "internal/race.Acquire", "internal/synctest.IsAssociated[sync.WaitGroup]", "sync/atomic.CompareAndSwapUint64", "internal/race.Write", "sync.runtime_SemacquireWaitGroup"], unfollowed := true, recurses := true, plainKeys := false, leaving := true, apart := false, narrowed := true }
def RoundServedUptoSaid : Prop := roundServedUptoRow.holds Tryz.pinned (OpenSpec.upto roundServedSpec)

/-- 'wayzgooselaw02.RoundLater', WHERE WHAT IT READS IS OF BULK AT MOST 1048576: true; the input reads as it did. -/
def roundLaterUptoRow : OpenClaim := { program := "yteeagjkaflglpaagreat", sum := "839f7afc2b7f112139f86d4bff27111895c5536e90fe0796a5ee8b13eee2eb9e", func := "wayzgoose/wayzgooselaw02.RoundLater", spec := "roundLater", inPlace := ["(*sync.WaitGroup).Add", "internal/race.ReleaseMerge", "internal/race.Disable", "internal/race.Enable", "internal/synctest.IsInBubble", "internal/synctest.Associate[sync.WaitGroup]", "sync.fatal", "sync/atomic.OrUint64", "sync/atomic.AddUint64", "internal/race.Read", "sync/atomic.LoadUint64", "sync/atomic.StoreUint64", "internal/synctest.Disassociate[sync.WaitGroup]", "sync.runtime_Semrelease", "(*sync.WaitGroup).Done", "(*sync.WaitGroup).Wait", "internal/race.Acquire", "internal/synctest.IsAssociated[sync.WaitGroup]", "sync/atomic.CompareAndSwapUint64", "internal/race.Write", "sync.runtime_SemacquireWaitGroup"], unfollowed := true, recurses := true, plainKeys := false, leaving := true, apart := false, narrowed := true }
def RoundLaterUptoSaid : Prop := roundLaterUptoRow.holds Tryz.pinned (OpenSpec.upto roundLaterSpec)

/-- 'wayzgooselaw02.RoundLeft', WHERE WHAT IT READS IS OF BULK AT MOST 1048576: true; the input reads as it did. -/
def roundLeftUptoRow : OpenClaim := { program := "yteeagjkaflglpaagreat", sum := "839f7afc2b7f112139f86d4bff27111895c5536e90fe0796a5ee8b13eee2eb9e", func := "wayzgoose/wayzgooselaw02.RoundLeft", spec := "roundLeft", inPlace := ["(*sync.WaitGroup).Add", "internal/race.ReleaseMerge", "internal/race.Disable", "internal/race.Enable", "internal/synctest.IsInBubble", "internal/synctest.Associate[sync.WaitGroup]", "sync.fatal", "sync/atomic.OrUint64", "sync/atomic.AddUint64", "internal/race.Read", "sync/atomic.LoadUint64", "sync/atomic.StoreUint64", "internal/synctest.Disassociate[sync.WaitGroup]", "sync.runtime_Semrelease", "(*sync.WaitGroup).Done", "(*sync.WaitGroup).Wait", "internal/race.Acquire", "internal/synctest.IsAssociated[sync.WaitGroup]", "sync/atomic.CompareAndSwapUint64", "internal/race.Write", "sync.runtime_SemacquireWaitGroup"], unfollowed := true, recurses := true, plainKeys := false, leaving := true, apart := false, narrowed := true }
def RoundLeftUptoSaid : Prop := roundLeftUptoRow.holds Tryz.pinned (OpenSpec.upto roundLeftSpec)

/-- 'wayzgooselaw02.RoundEasier', WHERE WHAT IT READS IS OF BULK AT MOST 1048576: true; the input reads as it did. -/
def roundEasierUptoRow : OpenClaim := { program := "yteeagjkaflglpaagreat", sum := "839f7afc2b7f112139f86d4bff27111895c5536e90fe0796a5ee8b13eee2eb9e", func := "wayzgoose/wayzgooselaw02.RoundEasier", spec := "roundEasier", inPlace := ["(*sync.WaitGroup).Add", "internal/race.ReleaseMerge", "internal/race.Disable", "internal/race.Enable", "internal/synctest.IsInBubble", "internal/synctest.Associate[sync.WaitGroup]", "sync.fatal", "sync/atomic.OrUint64", "sync/atomic.AddUint64", "internal/race.Read", "sync/atomic.LoadUint64", "sync/atomic.StoreUint64", "internal/synctest.Disassociate[sync.WaitGroup]", "sync.runtime_Semrelease", "(*sync.WaitGroup).Done", "(*sync.WaitGroup).Wait", "internal/race.Acquire", "internal/synctest.IsAssociated[sync.WaitGroup]", "sync/atomic.CompareAndSwapUint64", "internal/race.Write", "sync.runtime_SemacquireWaitGroup"], unfollowed := true, recurses := true, plainKeys := false, leaving := true, apart := false, narrowed := true }
def RoundEasierUptoSaid : Prop := roundEasierUptoRow.holds Tryz.pinned (OpenSpec.upto roundEasierSpec)

/-- 'wayzgooselaw02.RoundRenumbered', WHERE WHAT IT READS IS OF BULK AT MOST 1048576: true; the input reads as it did. -/
def roundRenumberedUptoRow : OpenClaim := { program := "yteeagjkaflglpaagreat", sum := "839f7afc2b7f112139f86d4bff27111895c5536e90fe0796a5ee8b13eee2eb9e", func := "wayzgoose/wayzgooselaw02.RoundRenumbered", spec := "roundRenumbered", inPlace := ["(*sync.WaitGroup).Add", "internal/race.ReleaseMerge", "internal/race.Disable", "internal/race.Enable", "internal/synctest.IsInBubble", "internal/synctest.Associate[sync.WaitGroup]", "sync.fatal", "sync/atomic.OrUint64", "sync/atomic.AddUint64", "internal/race.Read", "sync/atomic.LoadUint64", "sync/atomic.StoreUint64", "internal/synctest.Disassociate[sync.WaitGroup]", "sync.runtime_Semrelease", "(*sync.WaitGroup).Done", "(*sync.WaitGroup).Wait", "internal/race.Acquire", "internal/synctest.IsAssociated[sync.WaitGroup]", "sync/atomic.CompareAndSwapUint64", "internal/race.Write", "sync.runtime_SemacquireWaitGroup"], unfollowed := true, recurses := true, plainKeys := false, leaving := true, apart := false, narrowed := true }
def RoundRenumberedUptoSaid : Prop := roundRenumberedUptoRow.holds Tryz.pinned (OpenSpec.upto roundRenumberedSpec)

/-- 'wayzgooselaw02.RoundLost', WHERE WHAT IT READS IS OF BULK AT MOST 1048576: true; the input reads as it did. -/
def roundLostUptoRow : OpenClaim := { program := "yteeagjkaflglpaagreat", sum := "839f7afc2b7f112139f86d4bff27111895c5536e90fe0796a5ee8b13eee2eb9e", func := "wayzgoose/wayzgooselaw02.RoundLost", spec := "roundLost", inPlace := ["(*sync.WaitGroup).Add", "internal/race.ReleaseMerge", "internal/race.Disable", "internal/race.Enable", "internal/synctest.IsInBubble", "internal/synctest.Associate[sync.WaitGroup]", "sync.fatal", "sync/atomic.OrUint64", "sync/atomic.AddUint64", "internal/race.Read", "sync/atomic.LoadUint64", "sync/atomic.StoreUint64", "internal/synctest.Disassociate[sync.WaitGroup]", "sync.runtime_Semrelease", "(*sync.WaitGroup).Done", "(*sync.WaitGroup).Wait", "internal/race.Acquire", "internal/synctest.IsAssociated[sync.WaitGroup]", "sync/atomic.CompareAndSwapUint64", "internal/race.Write", "sync.runtime_SemacquireWaitGroup"], unfollowed := true, recurses := true, plainKeys := false, leaving := true, apart := false, narrowed := true }
def RoundLostUptoSaid : Prop := roundLostUptoRow.holds Tryz.pinned (OpenSpec.upto roundLostSpec)

/-- 'wayzgooselaw02.RoundBegins', WHERE WHAT IT READS IS OF BULK AT MOST 1048576: true; the input reads as it did. -/
def roundBeginsUptoRow : OpenClaim := { program := "yteeagjkaflglpaagreat", sum := "839f7afc2b7f112139f86d4bff27111895c5536e90fe0796a5ee8b13eee2eb9e", func := "wayzgoose/wayzgooselaw02.RoundBegins", spec := "roundBegins", inPlace := ["(*sync.WaitGroup).Add", "internal/race.ReleaseMerge", "internal/race.Disable", "internal/race.Enable", "internal/synctest.IsInBubble", "internal/synctest.Associate[sync.WaitGroup]", "sync.fatal", "sync/atomic.OrUint64", "sync/atomic.AddUint64", "internal/race.Read", "sync/atomic.LoadUint64", "sync/atomic.StoreUint64", "internal/synctest.Disassociate[sync.WaitGroup]", "sync.runtime_Semrelease", "(*sync.WaitGroup).Done", "(*sync.WaitGroup).Wait", "internal/race.Acquire", "internal/synctest.IsAssociated[sync.WaitGroup]", "sync/atomic.CompareAndSwapUint64", "internal/race.Write", "sync.runtime_SemacquireWaitGroup"], unfollowed := true, recurses := true, plainKeys := false, leaving := true, apart := false, narrowed := true }
def RoundBeginsUptoSaid : Prop := roundBeginsUptoRow.holds Tryz.pinned (OpenSpec.upto roundBeginsSpec)

/-- 'wayzgooselaw02.RoundShortest', WHERE WHAT IT READS IS OF BULK AT MOST 1048576: true; the input reads as it did. -/
def roundShortestUptoRow : OpenClaim := { program := "yteeagjkaflglpaagreat", sum := "839f7afc2b7f112139f86d4bff27111895c5536e90fe0796a5ee8b13eee2eb9e", func := "wayzgoose/wayzgooselaw02.RoundShortest", spec := "roundShortest", inPlace := ["(*sync.WaitGroup).Add", "internal/race.ReleaseMerge", "internal/race.Disable", "internal/race.Enable", "internal/synctest.IsInBubble", "internal/synctest.Associate[sync.WaitGroup]", "sync.fatal", "sync/atomic.OrUint64", "sync/atomic.AddUint64", "internal/race.Read", "sync/atomic.LoadUint64", "sync/atomic.StoreUint64", "internal/synctest.Disassociate[sync.WaitGroup]", "sync.runtime_Semrelease", "(*sync.WaitGroup).Done", "(*sync.WaitGroup).Wait", "internal/race.Acquire", "internal/synctest.IsAssociated[sync.WaitGroup]", "sync/atomic.CompareAndSwapUint64", "internal/race.Write", "sync.runtime_SemacquireWaitGroup"], unfollowed := true, recurses := true, plainKeys := false, leaving := true, apart := false, narrowed := true }
def RoundShortestUptoSaid : Prop := roundShortestUptoRow.holds Tryz.pinned (OpenSpec.upto roundShortestSpec)

/-- 'wayzgooselaw02.RoundDivided', WHERE WHAT IT READS IS OF BULK AT MOST 1048576: true; the input reads as it did. -/
def roundDividedUptoRow : OpenClaim := { program := "yteeagjkaflglpaagreat", sum := "839f7afc2b7f112139f86d4bff27111895c5536e90fe0796a5ee8b13eee2eb9e", func := "wayzgoose/wayzgooselaw02.RoundDivided", spec := "roundDivided", inPlace := ["(*sync.WaitGroup).Add", "internal/race.ReleaseMerge", "internal/race.Disable", "internal/race.Enable", "internal/synctest.IsInBubble", "internal/synctest.Associate[sync.WaitGroup]", "sync.fatal", "sync/atomic.OrUint64", "sync/atomic.AddUint64", "internal/race.Read", "sync/atomic.LoadUint64", "sync/atomic.StoreUint64", "internal/synctest.Disassociate[sync.WaitGroup]", "sync.runtime_Semrelease", "(*sync.WaitGroup).Done", "(*sync.WaitGroup).Wait", "internal/race.Acquire", "internal/synctest.IsAssociated[sync.WaitGroup]", "sync/atomic.CompareAndSwapUint64", "internal/race.Write", "sync.runtime_SemacquireWaitGroup"], unfollowed := true, recurses := true, plainKeys := false, leaving := true, apart := false, narrowed := true }
def RoundDividedUptoSaid : Prop := roundDividedUptoRow.holds Tryz.pinned (OpenSpec.upto roundDividedSpec)

/-- 'wayzgooselaw02.RoundTakes', WHERE WHAT IT READS IS OF BULK AT MOST 1048576: true; the input reads as it did. -/
def roundTakesUptoRow : OpenClaim := { program := "yteeagjkaflglpaagreat", sum := "839f7afc2b7f112139f86d4bff27111895c5536e90fe0796a5ee8b13eee2eb9e", func := "wayzgoose/wayzgooselaw02.RoundTakes", spec := "roundTakes", inPlace := ["(*sync.WaitGroup).Add", "internal/race.ReleaseMerge", "internal/race.Disable", "internal/race.Enable", "internal/synctest.IsInBubble", "internal/synctest.Associate[sync.WaitGroup]", "sync.fatal", "sync/atomic.OrUint64", "sync/atomic.AddUint64", "internal/race.Read", "sync/atomic.LoadUint64", "sync/atomic.StoreUint64", "internal/synctest.Disassociate[sync.WaitGroup]", "sync.runtime_Semrelease", "(*sync.WaitGroup).Done", "(*sync.WaitGroup).Wait", "internal/race.Acquire", "internal/synctest.IsAssociated[sync.WaitGroup]", "sync/atomic.CompareAndSwapUint64", "internal/race.Write", "sync.runtime_SemacquireWaitGroup"], unfollowed := true, recurses := true, plainKeys := false, leaving := true, apart := false, narrowed := true }
def RoundTakesUptoSaid : Prop := roundTakesUptoRow.holds Tryz.pinned (OpenSpec.upto roundTakesSpec)

/-- 'wayzgooselaw02.RoundDue', WHERE WHAT IT READS IS OF BULK AT MOST 1048576: true; the input reads as it did. -/
def roundDueUptoRow : OpenClaim := { program := "yteeagjkaflglpaagreat", sum := "839f7afc2b7f112139f86d4bff27111895c5536e90fe0796a5ee8b13eee2eb9e", func := "wayzgoose/wayzgooselaw02.RoundDue", spec := "roundDue", inPlace := ["(*sync.WaitGroup).Add", "internal/race.ReleaseMerge", "internal/race.Disable", "internal/race.Enable", "internal/synctest.IsInBubble", "internal/synctest.Associate[sync.WaitGroup]", "sync.fatal", "sync/atomic.OrUint64", "sync/atomic.AddUint64", "internal/race.Read", "sync/atomic.LoadUint64", "sync/atomic.StoreUint64", "internal/synctest.Disassociate[sync.WaitGroup]", "sync.runtime_Semrelease", "(*sync.WaitGroup).Done", "(*sync.WaitGroup).Wait", "internal/race.Acquire", "internal/synctest.IsAssociated[sync.WaitGroup]", "sync/atomic.CompareAndSwapUint64", "internal/race.Write", "sync.runtime_SemacquireWaitGroup"], unfollowed := true, recurses := true, plainKeys := false, leaving := true, apart := false, narrowed := true }
def RoundDueUptoSaid : Prop := roundDueUptoRow.holds Tryz.pinned (OpenSpec.upto roundDueSpec)

/-- 'wayzgooselaw02.RoundAfter', WHERE WHAT IT READS IS OF BULK AT MOST 1048576: true; the input reads as it did. -/
def roundAfterUptoRow : OpenClaim := { program := "yteeagjkaflglpaagreat", sum := "839f7afc2b7f112139f86d4bff27111895c5536e90fe0796a5ee8b13eee2eb9e", func := "wayzgoose/wayzgooselaw02.RoundAfter", spec := "roundAfter", inPlace := ["(*sync.WaitGroup).Add", "internal/race.ReleaseMerge", "internal/race.Disable", "internal/race.Enable", "internal/synctest.IsInBubble", "internal/synctest.Associate[sync.WaitGroup]", "sync.fatal", "sync/atomic.OrUint64", "sync/atomic.AddUint64", "internal/race.Read", "sync/atomic.LoadUint64", "sync/atomic.StoreUint64", "internal/synctest.Disassociate[sync.WaitGroup]", "sync.runtime_Semrelease", "(*sync.WaitGroup).Done", "(*sync.WaitGroup).Wait", "internal/race.Acquire", "internal/synctest.IsAssociated[sync.WaitGroup]", "sync/atomic.CompareAndSwapUint64", "internal/race.Write", "sync.runtime_SemacquireWaitGroup"], unfollowed := true, recurses := true, plainKeys := false, leaving := true, apart := false, narrowed := true }
def RoundAfterUptoSaid : Prop := roundAfterUptoRow.holds Tryz.pinned (OpenSpec.upto roundAfterSpec)

/-- 'wayzgooselaw02.RoundLast', WHERE WHAT IT READS IS OF BULK AT MOST 1048576: true; the input reads as it did. -/
def roundLastUptoRow : OpenClaim := { program := "yteeagjkaflglpaagreat", sum := "839f7afc2b7f112139f86d4bff27111895c5536e90fe0796a5ee8b13eee2eb9e", func := "wayzgoose/wayzgooselaw02.RoundLast", spec := "roundLast", inPlace := ["(*sync.WaitGroup).Add", "internal/race.ReleaseMerge", "internal/race.Disable", "internal/race.Enable", "internal/synctest.IsInBubble", "internal/synctest.Associate[sync.WaitGroup]", "sync.fatal", "sync/atomic.OrUint64", "sync/atomic.AddUint64", "internal/race.Read", "sync/atomic.LoadUint64", "sync/atomic.StoreUint64", "internal/synctest.Disassociate[sync.WaitGroup]", "sync.runtime_Semrelease", "(*sync.WaitGroup).Done", "(*sync.WaitGroup).Wait", "internal/race.Acquire", "internal/synctest.IsAssociated[sync.WaitGroup]", "sync/atomic.CompareAndSwapUint64", "internal/race.Write", "sync.runtime_SemacquireWaitGroup"], unfollowed := true, recurses := true, plainKeys := false, leaving := true, apart := false, narrowed := true }
def RoundLastUptoSaid : Prop := roundLastUptoRow.holds Tryz.pinned (OpenSpec.upto roundLastSpec)

/-- 'wayzgooselaw02.RoundLogs', WHERE WHAT IT READS IS OF BULK AT MOST 1048576: true; the input reads as it did. -/
def roundLogsUptoRow : OpenClaim := { program := "yteeagjkaflglpaagreat", sum := "839f7afc2b7f112139f86d4bff27111895c5536e90fe0796a5ee8b13eee2eb9e", func := "wayzgoose/wayzgooselaw02.RoundLogs", spec := "roundLogs", inPlace := ["(*sync.WaitGroup).Add", "internal/race.ReleaseMerge", "internal/race.Disable", "internal/race.Enable", "internal/synctest.IsInBubble", "internal/synctest.Associate[sync.WaitGroup]", "sync.fatal", "sync/atomic.OrUint64", "sync/atomic.AddUint64", "internal/race.Read", "sync/atomic.LoadUint64", "sync/atomic.StoreUint64", "internal/synctest.Disassociate[sync.WaitGroup]", "sync.runtime_Semrelease", "(*sync.WaitGroup).Done", "(*sync.WaitGroup).Wait", "internal/race.Acquire", "internal/synctest.IsAssociated[sync.WaitGroup]", "sync/atomic.CompareAndSwapUint64", "internal/race.Write", "sync.runtime_SemacquireWaitGroup"], unfollowed := true, recurses := true, plainKeys := false, leaving := true, apart := false, narrowed := true }
def RoundLogsUptoSaid : Prop := roundLogsUptoRow.holds Tryz.pinned (OpenSpec.upto roundLogsSpec)

/-- 'wayzgooselaw02.RoundWalks', WHERE WHAT IT READS IS OF BULK AT MOST 1048576: true; the input reads as it did. -/
def roundWalksUptoRow : OpenClaim := { program := "yteeagjkaflglpaagreat", sum := "839f7afc2b7f112139f86d4bff27111895c5536e90fe0796a5ee8b13eee2eb9e", func := "wayzgoose/wayzgooselaw02.RoundWalks", spec := "roundWalks", inPlace := ["(*sync.WaitGroup).Add", "internal/race.ReleaseMerge", "internal/race.Disable", "internal/race.Enable", "internal/synctest.IsInBubble", "internal/synctest.Associate[sync.WaitGroup]", "sync.fatal", "sync/atomic.OrUint64", "sync/atomic.AddUint64", "internal/race.Read", "sync/atomic.LoadUint64", "sync/atomic.StoreUint64", "internal/synctest.Disassociate[sync.WaitGroup]", "sync.runtime_Semrelease", "(*sync.WaitGroup).Done", "(*sync.WaitGroup).Wait", "internal/race.Acquire", "internal/synctest.IsAssociated[sync.WaitGroup]", "sync/atomic.CompareAndSwapUint64", "internal/race.Write", "sync.runtime_SemacquireWaitGroup"], unfollowed := true, recurses := true, plainKeys := false, leaving := true, apart := false, narrowed := true }
def RoundWalksUptoSaid : Prop := roundWalksUptoRow.holds Tryz.pinned (OpenSpec.upto roundWalksSpec)

/-- 'wayzgooselaw02.RoundNews', WHERE WHAT IT READS IS OF BULK AT MOST 1048576: true; the input reads as it did. -/
def roundNewsUptoRow : OpenClaim := { program := "yteeagjkaflglpaagreat", sum := "839f7afc2b7f112139f86d4bff27111895c5536e90fe0796a5ee8b13eee2eb9e", func := "wayzgoose/wayzgooselaw02.RoundNews", spec := "roundNews", inPlace := ["(*sync.WaitGroup).Add", "internal/race.ReleaseMerge", "internal/race.Disable", "internal/race.Enable", "internal/synctest.IsInBubble", "internal/synctest.Associate[sync.WaitGroup]", "sync.fatal", "sync/atomic.OrUint64", "sync/atomic.AddUint64", "internal/race.Read", "sync/atomic.LoadUint64", "sync/atomic.StoreUint64", "internal/synctest.Disassociate[sync.WaitGroup]", "sync.runtime_Semrelease", "(*sync.WaitGroup).Done", "(*sync.WaitGroup).Wait", "internal/race.Acquire", "internal/synctest.IsAssociated[sync.WaitGroup]", "sync/atomic.CompareAndSwapUint64", "internal/race.Write", "sync.runtime_SemacquireWaitGroup"], unfollowed := true, recurses := true, plainKeys := false, leaving := true, apart := false, narrowed := true }
def RoundNewsUptoSaid : Prop := roundNewsUptoRow.holds Tryz.pinned (OpenSpec.upto roundNewsSpec)

/-- 'wayzgooselaw02.RoundWalked', WHERE WHAT IT READS IS OF BULK AT MOST 1048576: true; the input reads as it did. -/
def roundWalkedUptoRow : OpenClaim := { program := "yteeagjkaflglpaagreat", sum := "839f7afc2b7f112139f86d4bff27111895c5536e90fe0796a5ee8b13eee2eb9e", func := "wayzgoose/wayzgooselaw02.RoundWalked", spec := "roundWalked", inPlace := ["(*sync.WaitGroup).Add", "internal/race.ReleaseMerge", "internal/race.Disable", "internal/race.Enable", "internal/synctest.IsInBubble", "internal/synctest.Associate[sync.WaitGroup]", "sync.fatal", "sync/atomic.OrUint64", "sync/atomic.AddUint64", "internal/race.Read", "sync/atomic.LoadUint64", "sync/atomic.StoreUint64", "internal/synctest.Disassociate[sync.WaitGroup]", "sync.runtime_Semrelease", "(*sync.WaitGroup).Done", "(*sync.WaitGroup).Wait", "internal/race.Acquire", "internal/synctest.IsAssociated[sync.WaitGroup]", "sync/atomic.CompareAndSwapUint64", "internal/race.Write", "sync.runtime_SemacquireWaitGroup"], unfollowed := true, recurses := true, plainKeys := false, leaving := true, apart := false, narrowed := true }
def RoundWalkedUptoSaid : Prop := roundWalkedUptoRow.holds Tryz.pinned (OpenSpec.upto roundWalkedSpec)

/-- 'wayzgooselaw02.RoundKnown', WHERE WHAT IT READS IS OF BULK AT MOST 1048576: true; the input reads as it did. -/
def roundKnownUptoRow : OpenClaim := { program := "yteeagjkaflglpaagreat", sum := "839f7afc2b7f112139f86d4bff27111895c5536e90fe0796a5ee8b13eee2eb9e", func := "wayzgoose/wayzgooselaw02.RoundKnown", spec := "roundKnown", inPlace := ["(*sync.WaitGroup).Add", "internal/race.ReleaseMerge", "internal/race.Disable", "internal/race.Enable", "internal/synctest.IsInBubble", "internal/synctest.Associate[sync.WaitGroup]", "sync.fatal", "sync/atomic.OrUint64", "sync/atomic.AddUint64", "internal/race.Read", "sync/atomic.LoadUint64", "sync/atomic.StoreUint64", "internal/synctest.Disassociate[sync.WaitGroup]", "sync.runtime_Semrelease", "(*sync.WaitGroup).Done", "(*sync.WaitGroup).Wait", "internal/race.Acquire", "internal/synctest.IsAssociated[sync.WaitGroup]", "sync/atomic.CompareAndSwapUint64", "internal/race.Write", "sync.runtime_SemacquireWaitGroup"], unfollowed := true, recurses := true, plainKeys := false, leaving := true, apart := false, narrowed := true }
def RoundKnownUptoSaid : Prop := roundKnownUptoRow.holds Tryz.pinned (OpenSpec.upto roundKnownSpec)

end Rows
end Go.Proofs.YteeagjkaflglpaaGreat
