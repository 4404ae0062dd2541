/-
  NARROWER THAN 'FOR EVERY INPUT', by the rows' own cells (each row's printed sentence says how): MarkRestores: laid · MarkCommon: laid · MarkLevenshtein: laid · MarkMirrored: laid · MarkCommons: laid · MarkBetween: laid · MarkRuns: laid · MarkDigits: laid · MarkSums: laid · MarkApart: laid.
  DERIVED. THE GIVEN ROWS OF THIS SEAT. 10 by the template 'for every input the law returns true; each argument reads behind the call as it read before'; 0 by the template 'total and deterministic' (their statements: YtopmcoohdhlnaaaDoorTotals.lean).
  GIVEN WITH THE SEED: the statements are not yours to turn. If you find one false, say at which input.
  Laid BY PROGRAM, IN A SANDBOX (cutbox-rows.mjs): the forced cells as the released guide's own fill.sh prints them over the translation 8527273fd3cb82ec… (all of the seat's roots in one cut). By AI agents, Wed Nov 11 2026. No macro, syntax, notation, axiom, sorry.
-/
import Derived.Test.YtopmcoohdhlnaaaDoorChecked
import GoSem.PinnedTables
import GoSem.Claim
import GoSem.ClaimJoined
import GoSem.ClaimMapViews
import Derived.JoinedTies
import Derived.KernelRfl
namespace Go.Proofs.YtopmcoohdhlnaaaDoor
/- THE CELL 'sum', in the pinned program and in every row, IS THE sha256 OF THE DUMP (.gsa) THAT YtopmcoohdhlnaaaDoorProg.lean LOADS. Nothing in Lean hashes anything: it is a label: what it is worth is what the hold of that sum in a sandbox is worth. -/
noncomputable def Tryd.pinned : Pinned := { name := "ytopmcoohdhlnaaadoor", sum := "8527273fd3cb82ec59d2c084cff13ceaeeec1cb6a298ade69c90d2688b726071", checked := Tryd.checked }
namespace Rows
def none {H : Type} : Left H := { results := [], args := [] }

/- WHAT THE LISTED PACKAGE-LEVEL VARIABLES READ AS WHEN THE CALL BEGINS. Each datum BY PROGRAM (the guide's laid-datum.mjs) off the statement by which the dump's own 'gosem.cut.vars' lays the variable. In a bare row this is a premise. The card (YtopmcoohdhlnaaaDoorCards.lean) ties it to the program's text. -/
def laid_unicode_utf8_acceptRanges {H : Type} : DataW H := .agg [.agg [.lit (.int .u8 128), .lit (.int .u8 191)], .agg [.lit (.int .u8 160), .lit (.int .u8 191)], .agg [.lit (.int .u8 128), .lit (.int .u8 159)], .agg [.lit (.int .u8 144), .lit (.int .u8 191)], .agg [.lit (.int .u8 128), .lit (.int .u8 143)], .agg [.lit (.int .u8 0), .lit (.int .u8 0)], .agg [.lit (.int .u8 0), .lit (.int .u8 0)], .agg [.lit (.int .u8 0), .lit (.int .u8 0)], .agg [.lit (.int .u8 0), .lit (.int .u8 0)], .agg [.lit (.int .u8 0), .lit (.int .u8 0)], .agg [.lit (.int .u8 0), .lit (.int .u8 0)], .agg [.lit (.int .u8 0), .lit (.int .u8 0)], .agg [.lit (.int .u8 0), .lit (.int .u8 0)], .agg [.lit (.int .u8 0), .lit (.int .u8 0)], .agg [.lit (.int .u8 0), .lit (.int .u8 0)], .agg [.lit (.int .u8 0), .lit (.int .u8 0)]]
/-- One of Go's own tables, pinned by name: the form's constant. -/
def laid_unicode_utf8_first : DataW Unit := Go.Pinned.utf8First

/-- 'pritchellaw09.MarkRestores': WHATEVER THE INPUT: true; the input reads as it did. -/
def markRestoresSpec : ChangeSpec := { name := "markRestores", fn := fun _ => fun
  | [d1, d2, d3] => { results := [.lit (.bool true)], args := [d1, d2, d3] }
  | _ => none }
def markRestoresRow : OpenClaim := { program := "ytopmcoohdhlnaaadoor", sum := "8527273fd3cb82ec59d2c084cff13ceaeeec1cb6a298ade69c90d2688b726071", func := "pritchel/pritchellaw09.MarkRestores", spec := "markRestores", inPlace := ["internal/abi.NoEscape", "internal/bytealg.MakeNoZero"], unfollowed := true, recurses := true, named := ["unicode/utf8.first", "unicode/utf8.acceptRanges"], apart := false, laid := [("unicode/utf8.acceptRanges", laid_unicode_utf8_acceptRanges), ("unicode/utf8.first", laid_unicode_utf8_first)] }
def MarkRestoresSaid : Prop := markRestoresRow.holds Tryd.pinned (OpenSpec.ofChange markRestoresSpec)

/-- ITS FALSE NEIGHBOUR: 'it returns false'. Refute it at one input. -/
def markRestoresWrong : ChangeSpec := { name := "markRestores", fn := fun _ => fun
  | [d1, d2, d3] => { results := [.lit (.bool false)], args := [d1, d2, d3] }
  | _ => none }
def MarkRestoresWrongFalsely : Prop := markRestoresRow.holds Tryd.pinned (OpenSpec.ofChange markRestoresWrong)

/-- 'pritchellaw09.MarkCommon': WHATEVER THE INPUT: true; the input reads as it did. -/
def markCommonSpec : ChangeSpec := { name := "markCommon", fn := fun _ => fun
  | [d1, d2, d3] => { results := [.lit (.bool true)], args := [d1, d2, d3] }
  | _ => none }
def markCommonRow : OpenClaim := { program := "ytopmcoohdhlnaaadoor", sum := "8527273fd3cb82ec59d2c084cff13ceaeeec1cb6a298ade69c90d2688b726071", func := "pritchel/pritchellaw09.MarkCommon", spec := "markCommon", inPlace := ["internal/abi.NoEscape", "internal/bytealg.MakeNoZero"], unfollowed := true, recurses := true, named := ["unicode/utf8.first", "unicode/utf8.acceptRanges"], apart := false, laid := [("unicode/utf8.acceptRanges", laid_unicode_utf8_acceptRanges), ("unicode/utf8.first", laid_unicode_utf8_first)] }
def MarkCommonSaid : Prop := markCommonRow.holds Tryd.pinned (OpenSpec.ofChange markCommonSpec)

/-- ITS FALSE NEIGHBOUR: 'it returns false'. Refute it at one input. -/
def markCommonWrong : ChangeSpec := { name := "markCommon", fn := fun _ => fun
  | [d1, d2, d3] => { results := [.lit (.bool false)], args := [d1, d2, d3] }
  | _ => none }
def MarkCommonWrongFalsely : Prop := markCommonRow.holds Tryd.pinned (OpenSpec.ofChange markCommonWrong)

/-- 'pritchellaw09.MarkLevenshtein': WHATEVER THE INPUT: true; the input reads as it did. -/
def markLevenshteinSpec : ChangeSpec := { name := "markLevenshtein", fn := fun _ => fun
  | [d1, d2, d3] => { results := [.lit (.bool true)], args := [d1, d2, d3] }
  | _ => none }
def markLevenshteinRow : OpenClaim := { program := "ytopmcoohdhlnaaadoor", sum := "8527273fd3cb82ec59d2c084cff13ceaeeec1cb6a298ade69c90d2688b726071", func := "pritchel/pritchellaw09.MarkLevenshtein", spec := "markLevenshtein", inPlace := ["internal/abi.NoEscape", "internal/bytealg.MakeNoZero"], unfollowed := true, recurses := true, named := ["unicode/utf8.first", "unicode/utf8.acceptRanges"], apart := false, laid := [("unicode/utf8.acceptRanges", laid_unicode_utf8_acceptRanges), ("unicode/utf8.first", laid_unicode_utf8_first)] }
def MarkLevenshteinSaid : Prop := markLevenshteinRow.holds Tryd.pinned (OpenSpec.ofChange markLevenshteinSpec)

/-- ITS FALSE NEIGHBOUR: 'it returns false'. Refute it at one input. -/
def markLevenshteinWrong : ChangeSpec := { name := "markLevenshtein", fn := fun _ => fun
  | [d1, d2, d3] => { results := [.lit (.bool false)], args := [d1, d2, d3] }
  | _ => none }
def MarkLevenshteinWrongFalsely : Prop := markLevenshteinRow.holds Tryd.pinned (OpenSpec.ofChange markLevenshteinWrong)

/-- 'pritchellaw09.MarkMirrored': WHATEVER THE INPUT: true; the input reads as it did. -/
def markMirroredSpec : ChangeSpec := { name := "markMirrored", fn := fun _ => fun
  | [d1, d2, d3] => { results := [.lit (.bool true)], args := [d1, d2, d3] }
  | _ => none }
def markMirroredRow : OpenClaim := { program := "ytopmcoohdhlnaaadoor", sum := "8527273fd3cb82ec59d2c084cff13ceaeeec1cb6a298ade69c90d2688b726071", func := "pritchel/pritchellaw09.MarkMirrored", spec := "markMirrored", inPlace := ["internal/abi.NoEscape", "internal/bytealg.MakeNoZero"], unfollowed := true, recurses := true, named := ["unicode/utf8.first", "unicode/utf8.acceptRanges"], apart := false, laid := [("unicode/utf8.acceptRanges", laid_unicode_utf8_acceptRanges), ("unicode/utf8.first", laid_unicode_utf8_first)] }
def MarkMirroredSaid : Prop := markMirroredRow.holds Tryd.pinned (OpenSpec.ofChange markMirroredSpec)

/-- ITS FALSE NEIGHBOUR: 'it returns false'. Refute it at one input. -/
def markMirroredWrong : ChangeSpec := { name := "markMirrored", fn := fun _ => fun
  | [d1, d2, d3] => { results := [.lit (.bool false)], args := [d1, d2, d3] }
  | _ => none }
def MarkMirroredWrongFalsely : Prop := markMirroredRow.holds Tryd.pinned (OpenSpec.ofChange markMirroredWrong)

/-- 'pritchellaw09.MarkCommons': WHATEVER THE INPUT: true; the input reads as it did. -/
def markCommonsSpec : ChangeSpec := { name := "markCommons", fn := fun _ => fun
  | [d1, d2] => { results := [.lit (.bool true)], args := [d1, d2] }
  | _ => none }
def markCommonsRow : OpenClaim := { program := "ytopmcoohdhlnaaadoor", sum := "8527273fd3cb82ec59d2c084cff13ceaeeec1cb6a298ade69c90d2688b726071", func := "pritchel/pritchellaw09.MarkCommons", spec := "markCommons", inPlace := ["internal/abi.NoEscape", "internal/bytealg.MakeNoZero"], unfollowed := true, recurses := true, named := ["unicode/utf8.first", "unicode/utf8.acceptRanges"], apart := false, laid := [("unicode/utf8.acceptRanges", laid_unicode_utf8_acceptRanges), ("unicode/utf8.first", laid_unicode_utf8_first)] }
def MarkCommonsSaid : Prop := markCommonsRow.holds Tryd.pinned (OpenSpec.ofChange markCommonsSpec)

/-- ITS FALSE NEIGHBOUR: 'it returns false'. Refute it at one input. -/
def markCommonsWrong : ChangeSpec := { name := "markCommons", fn := fun _ => fun
  | [d1, d2] => { results := [.lit (.bool false)], args := [d1, d2] }
  | _ => none }
def MarkCommonsWrongFalsely : Prop := markCommonsRow.holds Tryd.pinned (OpenSpec.ofChange markCommonsWrong)

/-- 'pritchellaw09.MarkBetween': WHATEVER THE INPUT: true; the input reads as it did. -/
def markBetweenSpec : ChangeSpec := { name := "markBetween", fn := fun _ => fun
  | [d1, d2, d3] => { results := [.lit (.bool true)], args := [d1, d2, d3] }
  | _ => none }
def markBetweenRow : OpenClaim := { program := "ytopmcoohdhlnaaadoor", sum := "8527273fd3cb82ec59d2c084cff13ceaeeec1cb6a298ade69c90d2688b726071", func := "pritchel/pritchellaw09.MarkBetween", spec := "markBetween", inPlace := ["internal/abi.NoEscape", "internal/bytealg.MakeNoZero"], unfollowed := true, recurses := true, named := ["unicode/utf8.first", "unicode/utf8.acceptRanges"], apart := false, laid := [("unicode/utf8.acceptRanges", laid_unicode_utf8_acceptRanges), ("unicode/utf8.first", laid_unicode_utf8_first)] }
def MarkBetweenSaid : Prop := markBetweenRow.holds Tryd.pinned (OpenSpec.ofChange markBetweenSpec)

/-- ITS FALSE NEIGHBOUR: 'it returns false'. Refute it at one input. -/
def markBetweenWrong : ChangeSpec := { name := "markBetween", fn := fun _ => fun
  | [d1, d2, d3] => { results := [.lit (.bool false)], args := [d1, d2, d3] }
  | _ => none }
def MarkBetweenWrongFalsely : Prop := markBetweenRow.holds Tryd.pinned (OpenSpec.ofChange markBetweenWrong)

/-- 'pritchellaw09.MarkRuns': WHATEVER THE INPUT: true; the input reads as it did. -/
def markRunsSpec : ChangeSpec := { name := "markRuns", fn := fun _ => fun
  | [d] => { results := [.lit (.bool true)], args := [d] }
  | _ => none }
def markRunsRow : OpenClaim := { program := "ytopmcoohdhlnaaadoor", sum := "8527273fd3cb82ec59d2c084cff13ceaeeec1cb6a298ade69c90d2688b726071", func := "pritchel/pritchellaw09.MarkRuns", spec := "markRuns", inPlace := ["internal/abi.NoEscape", "internal/bytealg.MakeNoZero"], unfollowed := true, recurses := true, named := ["unicode/utf8.first", "unicode/utf8.acceptRanges"], apart := false, laid := [("unicode/utf8.acceptRanges", laid_unicode_utf8_acceptRanges), ("unicode/utf8.first", laid_unicode_utf8_first)] }
def MarkRunsSaid : Prop := markRunsRow.holds Tryd.pinned (OpenSpec.ofChange markRunsSpec)

/-- ITS FALSE NEIGHBOUR: 'it returns false'. Refute it at one input. -/
def markRunsWrong : ChangeSpec := { name := "markRuns", fn := fun _ => fun
  | [d] => { results := [.lit (.bool false)], args := [d] }
  | _ => none }
def MarkRunsWrongFalsely : Prop := markRunsRow.holds Tryd.pinned (OpenSpec.ofChange markRunsWrong)

/-- 'pritchellaw09.MarkDigits': WHATEVER THE INPUT: true; the input reads as it did. -/
def markDigitsSpec : ChangeSpec := { name := "markDigits", fn := fun _ => fun
  | [d1, d2] => { results := [.lit (.bool true)], args := [d1, d2] }
  | _ => none }
def markDigitsRow : OpenClaim := { program := "ytopmcoohdhlnaaadoor", sum := "8527273fd3cb82ec59d2c084cff13ceaeeec1cb6a298ade69c90d2688b726071", func := "pritchel/pritchellaw09.MarkDigits", spec := "markDigits", inPlace := ["internal/abi.NoEscape", "internal/bytealg.MakeNoZero"], unfollowed := true, recurses := true, named := ["unicode/utf8.first", "unicode/utf8.acceptRanges"], apart := false, laid := [("unicode/utf8.acceptRanges", laid_unicode_utf8_acceptRanges), ("unicode/utf8.first", laid_unicode_utf8_first)] }
def MarkDigitsSaid : Prop := markDigitsRow.holds Tryd.pinned (OpenSpec.ofChange markDigitsSpec)

/-- ITS FALSE NEIGHBOUR: 'it returns false'. Refute it at one input. -/
def markDigitsWrong : ChangeSpec := { name := "markDigits", fn := fun _ => fun
  | [d1, d2] => { results := [.lit (.bool false)], args := [d1, d2] }
  | _ => none }
def MarkDigitsWrongFalsely : Prop := markDigitsRow.holds Tryd.pinned (OpenSpec.ofChange markDigitsWrong)

/-- 'pritchellaw09.MarkSums': WHATEVER THE INPUT: true; the input reads as it did. -/
def markSumsSpec : ChangeSpec := { name := "markSums", fn := fun _ => fun
  | [d] => { results := [.lit (.bool true)], args := [d] }
  | _ => none }
def markSumsRow : OpenClaim := { program := "ytopmcoohdhlnaaadoor", sum := "8527273fd3cb82ec59d2c084cff13ceaeeec1cb6a298ade69c90d2688b726071", func := "pritchel/pritchellaw09.MarkSums", spec := "markSums", inPlace := ["internal/abi.NoEscape", "internal/bytealg.MakeNoZero"], unfollowed := true, recurses := true, named := ["unicode/utf8.first", "unicode/utf8.acceptRanges"], apart := false, laid := [("unicode/utf8.acceptRanges", laid_unicode_utf8_acceptRanges), ("unicode/utf8.first", laid_unicode_utf8_first)] }
def MarkSumsSaid : Prop := markSumsRow.holds Tryd.pinned (OpenSpec.ofChange markSumsSpec)

/-- ITS FALSE NEIGHBOUR: 'it returns false'. Refute it at one input. -/
def markSumsWrong : ChangeSpec := { name := "markSums", fn := fun _ => fun
  | [d] => { results := [.lit (.bool false)], args := [d] }
  | _ => none }
def MarkSumsWrongFalsely : Prop := markSumsRow.holds Tryd.pinned (OpenSpec.ofChange markSumsWrong)

/-- 'pritchellaw09.MarkApart': WHATEVER THE INPUT: true; the input reads as it did. -/
def markApartSpec : ChangeSpec := { name := "markApart", fn := fun _ => fun
  | [d1, d2, d3] => { results := [.lit (.bool true)], args := [d1, d2, d3] }
  | _ => none }
def markApartRow : OpenClaim := { program := "ytopmcoohdhlnaaadoor", sum := "8527273fd3cb82ec59d2c084cff13ceaeeec1cb6a298ade69c90d2688b726071", func := "pritchel/pritchellaw09.MarkApart", spec := "markApart", inPlace := ["internal/abi.NoEscape", "internal/bytealg.MakeNoZero"], unfollowed := true, recurses := true, named := ["unicode/utf8.first", "unicode/utf8.acceptRanges"], apart := false, laid := [("unicode/utf8.acceptRanges", laid_unicode_utf8_acceptRanges), ("unicode/utf8.first", laid_unicode_utf8_first)] }
def MarkApartSaid : Prop := markApartRow.holds Tryd.pinned (OpenSpec.ofChange markApartSpec)

/-- ITS FALSE NEIGHBOUR: 'it returns false'. Refute it at one input. -/
def markApartWrong : ChangeSpec := { name := "markApart", fn := fun _ => fun
  | [d1, d2, d3] => { results := [.lit (.bool false)], args := [d1, d2, d3] }
  | _ => none }
def MarkApartWrongFalsely : Prop := markApartRow.holds Tryd.pinned (OpenSpec.ofChange markApartWrong)

/- THE SECOND FORM. 'bulk': how many values and letters a reading holds, each counted each time it is reached (what is shared counts as often as it is met; a slice's spare places count too). A statement '..UptoSaid' is the law's where the arguments, and the package variables that the reading takes, are together of bulk at most 1048576: NARROWER than '..Said'. Prove '..Said' where nothing that the law and all that it calls make is longer than what came in: it says more and counts as full. Else prove '..UptoSaid'. A law counts once. -/
mutual
def uptoBulk {H : Type} : DataW H → Nat
  | .lit (.string bytes) => bytes.length + 1
  | .lit _ => 1
  | .nil => 1
  | .ptr d => uptoBulk d + 1
  | .slice elems spare => uptoBulkAll elems + uptoBulkAll spare + 1
  | .agg parts => uptoBulkAll parts + 1
  | .iface _ d => uptoBulk d + 1
  | .map entries => uptoBulkEntries entries + 1
  | .held _ => 1
def uptoBulkAll {H : Type} : List (DataW H) → Nat
  | [] => 0
  | d :: r => uptoBulk d + uptoBulkAll r
def uptoBulkEntries {H : Type} : List (Lit × DataW H) → Nat
  | [] => 0
  | x :: r => uptoBulkEntry x + uptoBulkEntries r
def uptoBulkEntry {H : Type} : Lit × DataW H → Nat
  | (.string bytes, d) => bytes.length + uptoBulk d + 1
  | (_, d) => uptoBulk d + 1
 end
def uptoSmall : (H : Type) → List (DataW H) → Bool := fun _ ds => decide (uptoBulkAll ds ≤ 1048576)
def OpenSpec.upto (s : _root_.Go.ChangeSpec) : _root_.Go.OpenSpec := { _root_.Go.OpenSpec.ofChange s with cond := some uptoSmall }

/-- 'pritchellaw09.MarkRestores', WHERE WHAT IT READS IS OF BULK AT MOST 1048576: true; the input reads as it did. -/
def markRestoresUptoRow : OpenClaim := { program := "ytopmcoohdhlnaaadoor", sum := "8527273fd3cb82ec59d2c084cff13ceaeeec1cb6a298ade69c90d2688b726071", func := "pritchel/pritchellaw09.MarkRestores", spec := "markRestores", inPlace := ["internal/abi.NoEscape", "internal/bytealg.MakeNoZero"], unfollowed := true, recurses := true, named := ["unicode/utf8.first", "unicode/utf8.acceptRanges"], apart := false, laid := [("unicode/utf8.acceptRanges", laid_unicode_utf8_acceptRanges), ("unicode/utf8.first", laid_unicode_utf8_first)], narrowed := true }
def MarkRestoresUptoSaid : Prop := markRestoresUptoRow.holds Tryd.pinned (OpenSpec.upto markRestoresSpec)

/-- 'pritchellaw09.MarkCommon', WHERE WHAT IT READS IS OF BULK AT MOST 1048576: true; the input reads as it did. -/
def markCommonUptoRow : OpenClaim := { program := "ytopmcoohdhlnaaadoor", sum := "8527273fd3cb82ec59d2c084cff13ceaeeec1cb6a298ade69c90d2688b726071", func := "pritchel/pritchellaw09.MarkCommon", spec := "markCommon", inPlace := ["internal/abi.NoEscape", "internal/bytealg.MakeNoZero"], unfollowed := true, recurses := true, named := ["unicode/utf8.first", "unicode/utf8.acceptRanges"], apart := false, laid := [("unicode/utf8.acceptRanges", laid_unicode_utf8_acceptRanges), ("unicode/utf8.first", laid_unicode_utf8_first)], narrowed := true }
def MarkCommonUptoSaid : Prop := markCommonUptoRow.holds Tryd.pinned (OpenSpec.upto markCommonSpec)

/-- 'pritchellaw09.MarkLevenshtein', WHERE WHAT IT READS IS OF BULK AT MOST 1048576: true; the input reads as it did. -/
def markLevenshteinUptoRow : OpenClaim := { program := "ytopmcoohdhlnaaadoor", sum := "8527273fd3cb82ec59d2c084cff13ceaeeec1cb6a298ade69c90d2688b726071", func := "pritchel/pritchellaw09.MarkLevenshtein", spec := "markLevenshtein", inPlace := ["internal/abi.NoEscape", "internal/bytealg.MakeNoZero"], unfollowed := true, recurses := true, named := ["unicode/utf8.first", "unicode/utf8.acceptRanges"], apart := false, laid := [("unicode/utf8.acceptRanges", laid_unicode_utf8_acceptRanges), ("unicode/utf8.first", laid_unicode_utf8_first)], narrowed := true }
def MarkLevenshteinUptoSaid : Prop := markLevenshteinUptoRow.holds Tryd.pinned (OpenSpec.upto markLevenshteinSpec)

/-- 'pritchellaw09.MarkMirrored', WHERE WHAT IT READS IS OF BULK AT MOST 1048576: true; the input reads as it did. -/
def markMirroredUptoRow : OpenClaim := { program := "ytopmcoohdhlnaaadoor", sum := "8527273fd3cb82ec59d2c084cff13ceaeeec1cb6a298ade69c90d2688b726071", func := "pritchel/pritchellaw09.MarkMirrored", spec := "markMirrored", inPlace := ["internal/abi.NoEscape", "internal/bytealg.MakeNoZero"], unfollowed := true, recurses := true, named := ["unicode/utf8.first", "unicode/utf8.acceptRanges"], apart := false, laid := [("unicode/utf8.acceptRanges", laid_unicode_utf8_acceptRanges), ("unicode/utf8.first", laid_unicode_utf8_first)], narrowed := true }
def MarkMirroredUptoSaid : Prop := markMirroredUptoRow.holds Tryd.pinned (OpenSpec.upto markMirroredSpec)

/-- 'pritchellaw09.MarkCommons', WHERE WHAT IT READS IS OF BULK AT MOST 1048576: true; the input reads as it did. -/
def markCommonsUptoRow : OpenClaim := { program := "ytopmcoohdhlnaaadoor", sum := "8527273fd3cb82ec59d2c084cff13ceaeeec1cb6a298ade69c90d2688b726071", func := "pritchel/pritchellaw09.MarkCommons", spec := "markCommons", inPlace := ["internal/abi.NoEscape", "internal/bytealg.MakeNoZero"], unfollowed := true, recurses := true, named := ["unicode/utf8.first", "unicode/utf8.acceptRanges"], apart := false, laid := [("unicode/utf8.acceptRanges", laid_unicode_utf8_acceptRanges), ("unicode/utf8.first", laid_unicode_utf8_first)], narrowed := true }
def MarkCommonsUptoSaid : Prop := markCommonsUptoRow.holds Tryd.pinned (OpenSpec.upto markCommonsSpec)

/-- 'pritchellaw09.MarkBetween', WHERE WHAT IT READS IS OF BULK AT MOST 1048576: true; the input reads as it did. -/
def markBetweenUptoRow : OpenClaim := { program := "ytopmcoohdhlnaaadoor", sum := "8527273fd3cb82ec59d2c084cff13ceaeeec1cb6a298ade69c90d2688b726071", func := "pritchel/pritchellaw09.MarkBetween", spec := "markBetween", inPlace := ["internal/abi.NoEscape", "internal/bytealg.MakeNoZero"], unfollowed := true, recurses := true, named := ["unicode/utf8.first", "unicode/utf8.acceptRanges"], apart := false, laid := [("unicode/utf8.acceptRanges", laid_unicode_utf8_acceptRanges), ("unicode/utf8.first", laid_unicode_utf8_first)], narrowed := true }
def MarkBetweenUptoSaid : Prop := markBetweenUptoRow.holds Tryd.pinned (OpenSpec.upto markBetweenSpec)

/-- 'pritchellaw09.MarkRuns', WHERE WHAT IT READS IS OF BULK AT MOST 1048576: true; the input reads as it did. -/
def markRunsUptoRow : OpenClaim := { program := "ytopmcoohdhlnaaadoor", sum := "8527273fd3cb82ec59d2c084cff13ceaeeec1cb6a298ade69c90d2688b726071", func := "pritchel/pritchellaw09.MarkRuns", spec := "markRuns", inPlace := ["internal/abi.NoEscape", "internal/bytealg.MakeNoZero"], unfollowed := true, recurses := true, named := ["unicode/utf8.first", "unicode/utf8.acceptRanges"], apart := false, laid := [("unicode/utf8.acceptRanges", laid_unicode_utf8_acceptRanges), ("unicode/utf8.first", laid_unicode_utf8_first)], narrowed := true }
def MarkRunsUptoSaid : Prop := markRunsUptoRow.holds Tryd.pinned (OpenSpec.upto markRunsSpec)

/-- 'pritchellaw09.MarkDigits', WHERE WHAT IT READS IS OF BULK AT MOST 1048576: true; the input reads as it did. -/
def markDigitsUptoRow : OpenClaim := { program := "ytopmcoohdhlnaaadoor", sum := "8527273fd3cb82ec59d2c084cff13ceaeeec1cb6a298ade69c90d2688b726071", func := "pritchel/pritchellaw09.MarkDigits", spec := "markDigits", inPlace := ["internal/abi.NoEscape", "internal/bytealg.MakeNoZero"], unfollowed := true, recurses := true, named := ["unicode/utf8.first", "unicode/utf8.acceptRanges"], apart := false, laid := [("unicode/utf8.acceptRanges", laid_unicode_utf8_acceptRanges), ("unicode/utf8.first", laid_unicode_utf8_first)], narrowed := true }
def MarkDigitsUptoSaid : Prop := markDigitsUptoRow.holds Tryd.pinned (OpenSpec.upto markDigitsSpec)

/-- 'pritchellaw09.MarkSums', WHERE WHAT IT READS IS OF BULK AT MOST 1048576: true; the input reads as it did. -/
def markSumsUptoRow : OpenClaim := { program := "ytopmcoohdhlnaaadoor", sum := "8527273fd3cb82ec59d2c084cff13ceaeeec1cb6a298ade69c90d2688b726071", func := "pritchel/pritchellaw09.MarkSums", spec := "markSums", inPlace := ["internal/abi.NoEscape", "internal/bytealg.MakeNoZero"], unfollowed := true, recurses := true, named := ["unicode/utf8.first", "unicode/utf8.acceptRanges"], apart := false, laid := [("unicode/utf8.acceptRanges", laid_unicode_utf8_acceptRanges), ("unicode/utf8.first", laid_unicode_utf8_first)], narrowed := true }
def MarkSumsUptoSaid : Prop := markSumsUptoRow.holds Tryd.pinned (OpenSpec.upto markSumsSpec)

/-- 'pritchellaw09.MarkApart', WHERE WHAT IT READS IS OF BULK AT MOST 1048576: true; the input reads as it did. -/
def markApartUptoRow : OpenClaim := { program := "ytopmcoohdhlnaaadoor", sum := "8527273fd3cb82ec59d2c084cff13ceaeeec1cb6a298ade69c90d2688b726071", func := "pritchel/pritchellaw09.MarkApart", spec := "markApart", inPlace := ["internal/abi.NoEscape", "internal/bytealg.MakeNoZero"], unfollowed := true, recurses := true, named := ["unicode/utf8.first", "unicode/utf8.acceptRanges"], apart := false, laid := [("unicode/utf8.acceptRanges", laid_unicode_utf8_acceptRanges), ("unicode/utf8.first", laid_unicode_utf8_first)], narrowed := true }
def MarkApartUptoSaid : Prop := markApartUptoRow.holds Tryd.pinned (OpenSpec.upto markApartSpec)

end Rows
end Go.Proofs.YtopmcoohdhlnaaaDoor
