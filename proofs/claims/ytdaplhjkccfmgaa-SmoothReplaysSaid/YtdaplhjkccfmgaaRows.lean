/-
  No cell of these rows narrows 'for every input' (looked for: loops, veiled, ifaces, maps, wideKeys, modest, calm, conditions, laid).
  DERIVED. THE GIVEN ROWS OF THIS SEAT. 6 by the template 'for every input the law returns true; each argument reads behind the call as it read before'; 0 by the template 'total and deterministic' (their statements: YtdaplhjkccfmgaaTotals.lean).
  GIVEN WITH THE SEED: the statements are not yours to turn. If you find one false, say at which input.
  Laid BY PROGRAM, IN A SANDBOX (cutbox-rows.mjs): the forced cells as the released guide's own fill.sh prints them over the translation ac4ad87e9f9adc40… (all of the seat's roots in one cut). By AI agents, Wed Nov 11 2026. No macro, syntax, notation, axiom, sorry.
-/
import Derived.Test.YtdaplhjkccfmgaaChecked
import GoSem.Claim
import GoSem.ClaimJoined
import GoSem.ClaimMapViews
import Derived.JoinedTies
import Derived.KernelRfl
namespace Go.Proofs.Ytdaplhjkccfmgaa
/- THE CELL 'sum', in the pinned program and in every row, IS THE sha256 OF THE DUMP (.gsa) THAT YtdaplhjkccfmgaaProg.lean LOADS. Nothing in Lean hashes anything: it is a label: what it is worth is what the hold of that sum in a sandbox is worth. -/
noncomputable def Try.pinned : Pinned := { name := "ytdaplhjkccfmgaa", sum := "ac4ad87e9f9adc403eba810d8b3b56962fcd4e9e5809d2c845dab4f7fbb4d682", checked := Try.checked }
namespace Rows
def none {H : Type} : Left H := { results := [], args := [] }

/-- 'skyfixlaw30.SmoothReplays': WHATEVER THE INPUT: true; the input reads as it did. -/
def smoothReplaysSpec : ChangeSpec := { name := "smoothReplays", fn := fun _ => fun
  | [d1, d2, d3, d4] => { results := [.lit (.bool true)], args := [d1, d2, d3, d4] }
  | _ => none }
def smoothReplaysRow : OpenClaim := { program := "ytdaplhjkccfmgaa", sum := "ac4ad87e9f9adc403eba810d8b3b56962fcd4e9e5809d2c845dab4f7fbb4d682", func := "skyfix/skyfixlaw30.SmoothReplays", spec := "smoothReplays", unfollowed := true, recurses := true, apart := false }
def SmoothReplaysSaid : Prop := smoothReplaysRow.holds Try.pinned (OpenSpec.ofChange smoothReplaysSpec)

/-- ITS FALSE NEIGHBOUR: 'it returns false'. Refute it at one input. -/
def smoothReplaysWrong : ChangeSpec := { name := "smoothReplays", fn := fun _ => fun
  | [d1, d2, d3, d4] => { results := [.lit (.bool false)], args := [d1, d2, d3, d4] }
  | _ => none }
def SmoothReplaysWrongFalsely : Prop := smoothReplaysRow.holds Try.pinned (OpenSpec.ofChange smoothReplaysWrong)

/-- 'skyfixlaw30.SmoothSteps': WHATEVER THE INPUT: true; the input reads as it did. -/
def smoothStepsSpec : ChangeSpec := { name := "smoothSteps", fn := fun _ => fun
  | [d1, d2, d3] => { results := [.lit (.bool true)], args := [d1, d2, d3] }
  | _ => none }
def smoothStepsRow : OpenClaim := { program := "ytdaplhjkccfmgaa", sum := "ac4ad87e9f9adc403eba810d8b3b56962fcd4e9e5809d2c845dab4f7fbb4d682", func := "skyfix/skyfixlaw30.SmoothSteps", spec := "smoothSteps", unfollowed := true, recurses := true, apart := false }
def SmoothStepsSaid : Prop := smoothStepsRow.holds Try.pinned (OpenSpec.ofChange smoothStepsSpec)

/-- ITS FALSE NEIGHBOUR: 'it returns false'. Refute it at one input. -/
def smoothStepsWrong : ChangeSpec := { name := "smoothSteps", fn := fun _ => fun
  | [d1, d2, d3] => { results := [.lit (.bool false)], args := [d1, d2, d3] }
  | _ => none }
def SmoothStepsWrongFalsely : Prop := smoothStepsRow.holds Try.pinned (OpenSpec.ofChange smoothStepsWrong)

/-- 'skyfixlaw30.SmoothKnown': WHATEVER THE INPUT: true; the input reads as it did. -/
def smoothKnownSpec : ChangeSpec := { name := "smoothKnown", fn := fun _ => fun
  | [] => { results := [.lit (.bool true)], args := [] }
  | _ => none }
def smoothKnownRow : OpenClaim := { program := "ytdaplhjkccfmgaa", sum := "ac4ad87e9f9adc403eba810d8b3b56962fcd4e9e5809d2c845dab4f7fbb4d682", func := "skyfix/skyfixlaw30.SmoothKnown", spec := "smoothKnown", unfollowed := true, recurses := true, apart := false }
def SmoothKnownSaid : Prop := smoothKnownRow.holds Try.pinned (OpenSpec.ofChange smoothKnownSpec)

/-- ITS FALSE NEIGHBOUR: 'it returns false'. Refute it at one input. -/
def smoothKnownWrong : ChangeSpec := { name := "smoothKnown", fn := fun _ => fun
  | [] => { results := [.lit (.bool false)], args := [] }
  | _ => none }
def SmoothKnownWrongFalsely : Prop := smoothKnownRow.holds Try.pinned (OpenSpec.ofChange smoothKnownWrong)

/-- 'skyfixlaw30.SmoothBounds': WHATEVER THE INPUT: true; the input reads as it did. -/
def smoothBoundsSpec : ChangeSpec := { name := "smoothBounds", fn := fun _ => fun
  | [d1, d2, d3, d4, d5] => { results := [.lit (.bool true)], args := [d1, d2, d3, d4, d5] }
  | _ => none }
def smoothBoundsRow : OpenClaim := { program := "ytdaplhjkccfmgaa", sum := "ac4ad87e9f9adc403eba810d8b3b56962fcd4e9e5809d2c845dab4f7fbb4d682", func := "skyfix/skyfixlaw30.SmoothBounds", spec := "smoothBounds", unfollowed := true, recurses := true, apart := false }
def SmoothBoundsSaid : Prop := smoothBoundsRow.holds Try.pinned (OpenSpec.ofChange smoothBoundsSpec)

/-- ITS FALSE NEIGHBOUR: 'it returns false'. Refute it at one input. -/
def smoothBoundsWrong : ChangeSpec := { name := "smoothBounds", fn := fun _ => fun
  | [d1, d2, d3, d4, d5] => { results := [.lit (.bool false)], args := [d1, d2, d3, d4, d5] }
  | _ => none }
def SmoothBoundsWrongFalsely : Prop := smoothBoundsRow.holds Try.pinned (OpenSpec.ofChange smoothBoundsWrong)

/-- 'skyfixlaw30.SmoothSlips': WHATEVER THE INPUT: true; the input reads as it did. -/
def smoothSlipsSpec : ChangeSpec := { name := "smoothSlips", fn := fun _ => fun
  | [d1, d2, d3, d4, d5, d6] => { results := [.lit (.bool true)], args := [d1, d2, d3, d4, d5, d6] }
  | _ => none }
def smoothSlipsRow : OpenClaim := { program := "ytdaplhjkccfmgaa", sum := "ac4ad87e9f9adc403eba810d8b3b56962fcd4e9e5809d2c845dab4f7fbb4d682", func := "skyfix/skyfixlaw30.SmoothSlips", spec := "smoothSlips", unfollowed := true, recurses := true, apart := false }
def SmoothSlipsSaid : Prop := smoothSlipsRow.holds Try.pinned (OpenSpec.ofChange smoothSlipsSpec)

/-- ITS FALSE NEIGHBOUR: 'it returns false'. Refute it at one input. -/
def smoothSlipsWrong : ChangeSpec := { name := "smoothSlips", fn := fun _ => fun
  | [d1, d2, d3, d4, d5, d6] => { results := [.lit (.bool false)], args := [d1, d2, d3, d4, d5, d6] }
  | _ => none }
def SmoothSlipsWrongFalsely : Prop := smoothSlipsRow.holds Try.pinned (OpenSpec.ofChange smoothSlipsWrong)

/-- 'skyfixlaw30.SmoothShifts': WHATEVER THE INPUT: true; the input reads as it did. -/
def smoothShiftsSpec : ChangeSpec := { name := "smoothShifts", fn := fun _ => fun
  | [d1, d2, d3, d4, d5] => { results := [.lit (.bool true)], args := [d1, d2, d3, d4, d5] }
  | _ => none }
def smoothShiftsRow : OpenClaim := { program := "ytdaplhjkccfmgaa", sum := "ac4ad87e9f9adc403eba810d8b3b56962fcd4e9e5809d2c845dab4f7fbb4d682", func := "skyfix/skyfixlaw30.SmoothShifts", spec := "smoothShifts", unfollowed := true, recurses := true, apart := false }
def SmoothShiftsSaid : Prop := smoothShiftsRow.holds Try.pinned (OpenSpec.ofChange smoothShiftsSpec)

/-- ITS FALSE NEIGHBOUR: 'it returns false'. Refute it at one input. -/
def smoothShiftsWrong : ChangeSpec := { name := "smoothShifts", fn := fun _ => fun
  | [d1, d2, d3, d4, d5] => { results := [.lit (.bool false)], args := [d1, d2, d3, d4, d5] }
  | _ => none }
def SmoothShiftsWrongFalsely : Prop := smoothShiftsRow.holds Try.pinned (OpenSpec.ofChange smoothShiftsWrong)

/- THE SECOND FORM. 'bulk': how many values and letters a reading holds, each counted each time it is reached (what is shared counts as often as it is met; a slice's spare places count too). A statement '..UptoSaid' is the law's where the arguments, and the package variables that the reading takes, are together of bulk at most 1048576: NARROWER than '..Said'. Prove '..Said' where nothing that the law and all that it calls make is longer than what came in: it says more and counts as full. Else prove '..UptoSaid'. A law counts once. -/
mutual
def uptoBulk {H : Type} : DataW H → Nat
  | .lit (.string bytes) => bytes.length + 1
  | .lit _ => 1
  | .nil => 1
  | .ptr d => uptoBulk d + 1
  | .slice elems spare => uptoBulkAll elems + uptoBulkAll spare + 1
  | .agg parts => uptoBulkAll parts + 1
  | .iface _ d => uptoBulk d + 1
  | .map entries => uptoBulkEntries entries + 1
  | .held _ => 1
def uptoBulkAll {H : Type} : List (DataW H) → Nat
  | [] => 0
  | d :: r => uptoBulk d + uptoBulkAll r
def uptoBulkEntries {H : Type} : List (Lit × DataW H) → Nat
  | [] => 0
  | x :: r => uptoBulkEntry x + uptoBulkEntries r
def uptoBulkEntry {H : Type} : Lit × DataW H → Nat
  | (.string bytes, d) => bytes.length + uptoBulk d + 1
  | (_, d) => uptoBulk d + 1
 end
def uptoSmall : (H : Type) → List (DataW H) → Bool := fun _ ds => decide (uptoBulkAll ds ≤ 1048576)
def OpenSpec.upto (s : _root_.Go.ChangeSpec) : _root_.Go.OpenSpec := { _root_.Go.OpenSpec.ofChange s with cond := some uptoSmall }

/-- 'skyfixlaw30.SmoothReplays', WHERE WHAT IT READS IS OF BULK AT MOST 1048576: true; the input reads as it did. -/
def smoothReplaysUptoRow : OpenClaim := { program := "ytdaplhjkccfmgaa", sum := "ac4ad87e9f9adc403eba810d8b3b56962fcd4e9e5809d2c845dab4f7fbb4d682", func := "skyfix/skyfixlaw30.SmoothReplays", spec := "smoothReplays", unfollowed := true, recurses := true, apart := false, narrowed := true }
def SmoothReplaysUptoSaid : Prop := smoothReplaysUptoRow.holds Try.pinned (OpenSpec.upto smoothReplaysSpec)

/-- 'skyfixlaw30.SmoothSteps', WHERE WHAT IT READS IS OF BULK AT MOST 1048576: true; the input reads as it did. -/
def smoothStepsUptoRow : OpenClaim := { program := "ytdaplhjkccfmgaa", sum := "ac4ad87e9f9adc403eba810d8b3b56962fcd4e9e5809d2c845dab4f7fbb4d682", func := "skyfix/skyfixlaw30.SmoothSteps", spec := "smoothSteps", unfollowed := true, recurses := true, apart := false, narrowed := true }
def SmoothStepsUptoSaid : Prop := smoothStepsUptoRow.holds Try.pinned (OpenSpec.upto smoothStepsSpec)

/-- 'skyfixlaw30.SmoothKnown', WHERE WHAT IT READS IS OF BULK AT MOST 1048576: true; the input reads as it did. -/
def smoothKnownUptoRow : OpenClaim := { program := "ytdaplhjkccfmgaa", sum := "ac4ad87e9f9adc403eba810d8b3b56962fcd4e9e5809d2c845dab4f7fbb4d682", func := "skyfix/skyfixlaw30.SmoothKnown", spec := "smoothKnown", unfollowed := true, recurses := true, apart := false, narrowed := true }
def SmoothKnownUptoSaid : Prop := smoothKnownUptoRow.holds Try.pinned (OpenSpec.upto smoothKnownSpec)

/-- 'skyfixlaw30.SmoothBounds', WHERE WHAT IT READS IS OF BULK AT MOST 1048576: true; the input reads as it did. -/
def smoothBoundsUptoRow : OpenClaim := { program := "ytdaplhjkccfmgaa", sum := "ac4ad87e9f9adc403eba810d8b3b56962fcd4e9e5809d2c845dab4f7fbb4d682", func := "skyfix/skyfixlaw30.SmoothBounds", spec := "smoothBounds", unfollowed := true, recurses := true, apart := false, narrowed := true }
def SmoothBoundsUptoSaid : Prop := smoothBoundsUptoRow.holds Try.pinned (OpenSpec.upto smoothBoundsSpec)

/-- 'skyfixlaw30.SmoothSlips', WHERE WHAT IT READS IS OF BULK AT MOST 1048576: true; the input reads as it did. -/
def smoothSlipsUptoRow : OpenClaim := { program := "ytdaplhjkccfmgaa", sum := "ac4ad87e9f9adc403eba810d8b3b56962fcd4e9e5809d2c845dab4f7fbb4d682", func := "skyfix/skyfixlaw30.SmoothSlips", spec := "smoothSlips", unfollowed := true, recurses := true, apart := false, narrowed := true }
def SmoothSlipsUptoSaid : Prop := smoothSlipsUptoRow.holds Try.pinned (OpenSpec.upto smoothSlipsSpec)

/-- 'skyfixlaw30.SmoothShifts', WHERE WHAT IT READS IS OF BULK AT MOST 1048576: true; the input reads as it did. -/
def smoothShiftsUptoRow : OpenClaim := { program := "ytdaplhjkccfmgaa", sum := "ac4ad87e9f9adc403eba810d8b3b56962fcd4e9e5809d2c845dab4f7fbb4d682", func := "skyfix/skyfixlaw30.SmoothShifts", spec := "smoothShifts", unfollowed := true, recurses := true, apart := false, narrowed := true }
def SmoothShiftsUptoSaid : Prop := smoothShiftsUptoRow.holds Try.pinned (OpenSpec.upto smoothShiftsSpec)

end Rows
end Go.Proofs.Ytdaplhjkccfmgaa
