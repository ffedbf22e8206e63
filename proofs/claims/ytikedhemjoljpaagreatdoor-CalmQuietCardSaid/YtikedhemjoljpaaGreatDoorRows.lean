/-
  NARROWER THAN 'FOR EVERY INPUT', by the rows' own cells (each row's printed sentence says how): WorldNone: laid · WorldSizes: laid · WorldTime: laid · WorldDown: laid · ScriptErrors: laid · CalmQuiet: laid.
  DERIVED. THE GIVEN ROWS OF THIS SEAT. 6 by the template 'for every input the law returns true; each argument reads behind the call as it read before'; 0 by the template 'total and deterministic' (their statements: YtikedhemjoljpaaGreatDoorTotals.lean).
  GIVEN WITH THE SEED: the statements are not yours to turn. If you find one false, say at which input.
  Laid BY PROGRAM, IN A SANDBOX (cutbox-rows.mjs): the forced cells as the released guide's own fill.sh prints them over the translation 31f507c31909ecaf… (all of the seat's roots in one cut). By AI agents, Wed Nov 11 2026. No macro, syntax, notation, axiom, sorry.
-/
import Derived.Test.YtikedhemjoljpaaGreatDoorChecked
import GoSem.PinnedTables
import GoSem.Claim
import GoSem.ClaimJoined
import GoSem.ClaimMapViews
import Derived.JoinedTies
import Derived.KernelRfl
namespace Go.Proofs.YtikedhemjoljpaaGreatDoor
/- THE CELL 'sum', in the pinned program and in every row, IS THE sha256 OF THE DUMP (.gsa) THAT YtikedhemjoljpaaGreatDoorProg.lean LOADS. Nothing in Lean hashes anything: it is a label: what it is worth is what the hold of that sum in a sandbox is worth. -/
noncomputable def Tryz.pinned : Pinned := { name := "ytikedhemjoljpaagreatdoor", sum := "31f507c31909ecaf11fd9c5f9364036158cb663d9839c29b24d5e64319532922", checked := Tryz.checked }
namespace Rows
def none {H : Type} : Left H := { results := [], args := [] }

/- WHAT THE LISTED PACKAGE-LEVEL VARIABLES READ AS WHEN THE CALL BEGINS. Each datum BY PROGRAM (the guide's laid-datum.mjs) off the statement by which the dump's own 'gosem.cut.vars' lays the variable. In a bare row this is a premise. The card (YtikedhemjoljpaaGreatDoorCards.lean) ties it to the program's text. -/
def laid_internal_strconv_uint64pow10 {H : Type} : DataW H := .agg [.lit (.int .u64 1), .lit (.int .u64 10), .lit (.int .u64 100), .lit (.int .u64 1000), .lit (.int .u64 10000), .lit (.int .u64 100000), .lit (.int .u64 1000000), .lit (.int .u64 10000000), .lit (.int .u64 100000000), .lit (.int .u64 1000000000), .lit (.int .u64 10000000000), .lit (.int .u64 100000000000), .lit (.int .u64 1000000000000), .lit (.int .u64 10000000000000), .lit (.int .u64 100000000000000), .lit (.int .u64 1000000000000000), .lit (.int .u64 10000000000000000), .lit (.int .u64 100000000000000000), .lit (.int .u64 1000000000000000000), .lit (.int .u64 10000000000000000000)]
def laid_math_bits_deBruijn32tab {H : Type} : DataW H := .agg [.lit (.int .u8 0), .lit (.int .u8 1), .lit (.int .u8 28), .lit (.int .u8 2), .lit (.int .u8 29), .lit (.int .u8 14), .lit (.int .u8 24), .lit (.int .u8 3), .lit (.int .u8 30), .lit (.int .u8 22), .lit (.int .u8 20), .lit (.int .u8 15), .lit (.int .u8 25), .lit (.int .u8 17), .lit (.int .u8 4), .lit (.int .u8 8), .lit (.int .u8 31), .lit (.int .u8 27), .lit (.int .u8 13), .lit (.int .u8 23), .lit (.int .u8 21), .lit (.int .u8 19), .lit (.int .u8 16), .lit (.int .u8 7), .lit (.int .u8 26), .lit (.int .u8 12), .lit (.int .u8 18), .lit (.int .u8 6), .lit (.int .u8 11), .lit (.int .u8 5), .lit (.int .u8 10), .lit (.int .u8 9)]
def laid_math_bits_deBruijn64tab {H : Type} : DataW H := .agg [.lit (.int .u8 0), .lit (.int .u8 1), .lit (.int .u8 56), .lit (.int .u8 2), .lit (.int .u8 57), .lit (.int .u8 49), .lit (.int .u8 28), .lit (.int .u8 3), .lit (.int .u8 61), .lit (.int .u8 58), .lit (.int .u8 42), .lit (.int .u8 50), .lit (.int .u8 38), .lit (.int .u8 29), .lit (.int .u8 17), .lit (.int .u8 4), .lit (.int .u8 62), .lit (.int .u8 47), .lit (.int .u8 59), .lit (.int .u8 36), .lit (.int .u8 45), .lit (.int .u8 43), .lit (.int .u8 51), .lit (.int .u8 22), .lit (.int .u8 53), .lit (.int .u8 39), .lit (.int .u8 33), .lit (.int .u8 30), .lit (.int .u8 24), .lit (.int .u8 18), .lit (.int .u8 12), .lit (.int .u8 5), .lit (.int .u8 63), .lit (.int .u8 55), .lit (.int .u8 48), .lit (.int .u8 27), .lit (.int .u8 60), .lit (.int .u8 41), .lit (.int .u8 37), .lit (.int .u8 16), .lit (.int .u8 46), .lit (.int .u8 35), .lit (.int .u8 44), .lit (.int .u8 21), .lit (.int .u8 52), .lit (.int .u8 32), .lit (.int .u8 23), .lit (.int .u8 11), .lit (.int .u8 54), .lit (.int .u8 26), .lit (.int .u8 40), .lit (.int .u8 15), .lit (.int .u8 34), .lit (.int .u8 20), .lit (.int .u8 31), .lit (.int .u8 10), .lit (.int .u8 25), .lit (.int .u8 14), .lit (.int .u8 19), .lit (.int .u8 9), .lit (.int .u8 13), .lit (.int .u8 8), .lit (.int .u8 7), .lit (.int .u8 6)]
def laid_strconv_ErrSyntax {H : Type} : DataW H := .iface "*errors.errorString" (.ptr (.agg [.lit (.string [105, 110, 118, 97, 108, 105, 100, 32, 115, 121, 110, 116, 97, 120])]))
def laid_strconv_ErrRange {H : Type} : DataW H := .iface "*errors.errorString" (.ptr (.agg [.lit (.string [118, 97, 108, 117, 101, 32, 111, 117, 116, 32, 111, 102, 32, 114, 97, 110, 103, 101])]))
/-- One of Go's own tables, pinned by name: the form's constant. -/
def laid_unicode_utf8_first : DataW Unit := Go.Pinned.utf8First
def laid_unicode_utf8_acceptRanges {H : Type} : DataW H := .agg [.agg [.lit (.int .u8 128), .lit (.int .u8 191)], .agg [.lit (.int .u8 160), .lit (.int .u8 191)], .agg [.lit (.int .u8 128), .lit (.int .u8 159)], .agg [.lit (.int .u8 144), .lit (.int .u8 191)], .agg [.lit (.int .u8 128), .lit (.int .u8 143)], .agg [.lit (.int .u8 0), .lit (.int .u8 0)], .agg [.lit (.int .u8 0), .lit (.int .u8 0)], .agg [.lit (.int .u8 0), .lit (.int .u8 0)], .agg [.lit (.int .u8 0), .lit (.int .u8 0)], .agg [.lit (.int .u8 0), .lit (.int .u8 0)], .agg [.lit (.int .u8 0), .lit (.int .u8 0)], .agg [.lit (.int .u8 0), .lit (.int .u8 0)], .agg [.lit (.int .u8 0), .lit (.int .u8 0)], .agg [.lit (.int .u8 0), .lit (.int .u8 0)], .agg [.lit (.int .u8 0), .lit (.int .u8 0)], .agg [.lit (.int .u8 0), .lit (.int .u8 0)]]
/-- One of Go's own tables, pinned by name: the form's constant. -/
def laid_unicode_CaseRanges : DataW Unit := Go.Pinned.caseRanges

/-- 'armariumlaw22.WorldNone': WHATEVER THE INPUT: true; the input reads as it did. -/
def worldNoneSpec : ChangeSpec := { name := "worldNone", fn := fun _ => fun
  | [] => { results := [.lit (.bool true)], args := [] }
  | _ => none }
def worldNoneRow : OpenClaim := { program := "ytikedhemjoljpaagreatdoor", sum := "31f507c31909ecaf11fd9c5f9364036158cb663d9839c29b24d5e64319532922", func := "armarium/armariumlaw22.WorldNone", spec := "worldNone", inPlace := ["math.archTrunc", "math.Float64bits", "math.Float64frombits", "internal/abi.NoEscape", "internal/bytealg.IndexByteString", "slices.overlaps[armarium/api.Entry]", "slices.overlaps[armarium/api.Memo]", "internal/bytealg.MakeNoZero", "internal/bytealg.IndexString", "internal/bytealg.CountString"], unfollowed := true, recurses := true, named := ["internal/strconv.uint64pow10", "math/bits.deBruijn32tab", "math/bits.deBruijn64tab", "strconv.ErrSyntax", "strconv.ErrRange", "unicode/utf8.first", "unicode/utf8.acceptRanges", "unicode.CaseRanges", "internal/bytealg.MaxLen"], plainKeys := false, apart := false, laid := [("internal/strconv.uint64pow10", laid_internal_strconv_uint64pow10), ("math/bits.deBruijn32tab", laid_math_bits_deBruijn32tab), ("math/bits.deBruijn64tab", laid_math_bits_deBruijn64tab), ("strconv.ErrSyntax", laid_strconv_ErrSyntax), ("strconv.ErrRange", laid_strconv_ErrRange), ("unicode/utf8.first", laid_unicode_utf8_first), ("unicode/utf8.acceptRanges", laid_unicode_utf8_acceptRanges), ("unicode.CaseRanges", laid_unicode_CaseRanges)] }
def WorldNoneSaid : Prop := worldNoneRow.holds Tryz.pinned (OpenSpec.ofChange worldNoneSpec)

/-- ITS FALSE NEIGHBOUR: 'it returns false'. Refute it at one input. -/
def worldNoneWrong : ChangeSpec := { name := "worldNone", fn := fun _ => fun
  | [] => { results := [.lit (.bool false)], args := [] }
  | _ => none }
def WorldNoneWrongFalsely : Prop := worldNoneRow.holds Tryz.pinned (OpenSpec.ofChange worldNoneWrong)

/-- 'armariumlaw22.WorldSizes': WHATEVER THE INPUT: true; the input reads as it did. -/
def worldSizesSpec : ChangeSpec := { name := "worldSizes", fn := fun _ => fun
  | [d] => { results := [.lit (.bool true)], args := [d] }
  | _ => none }
def worldSizesRow : OpenClaim := { program := "ytikedhemjoljpaagreatdoor", sum := "31f507c31909ecaf11fd9c5f9364036158cb663d9839c29b24d5e64319532922", func := "armarium/armariumlaw22.WorldSizes", spec := "worldSizes", inPlace := ["math.archTrunc", "math.Float64bits", "math.Float64frombits", "internal/abi.NoEscape", "internal/bytealg.IndexByteString", "slices.overlaps[armarium/api.Entry]", "slices.overlaps[armarium/api.Memo]", "internal/bytealg.MakeNoZero", "internal/bytealg.IndexString", "internal/bytealg.CountString"], unfollowed := true, recurses := true, named := ["internal/strconv.uint64pow10", "math/bits.deBruijn32tab", "math/bits.deBruijn64tab", "strconv.ErrSyntax", "strconv.ErrRange", "unicode/utf8.first", "unicode/utf8.acceptRanges", "unicode.CaseRanges", "internal/bytealg.MaxLen"], plainKeys := false, apart := false, laid := [("internal/strconv.uint64pow10", laid_internal_strconv_uint64pow10), ("math/bits.deBruijn32tab", laid_math_bits_deBruijn32tab), ("math/bits.deBruijn64tab", laid_math_bits_deBruijn64tab), ("strconv.ErrSyntax", laid_strconv_ErrSyntax), ("strconv.ErrRange", laid_strconv_ErrRange), ("unicode/utf8.first", laid_unicode_utf8_first), ("unicode/utf8.acceptRanges", laid_unicode_utf8_acceptRanges), ("unicode.CaseRanges", laid_unicode_CaseRanges)] }
def WorldSizesSaid : Prop := worldSizesRow.holds Tryz.pinned (OpenSpec.ofChange worldSizesSpec)

/-- ITS FALSE NEIGHBOUR: 'it returns false'. Refute it at one input. -/
def worldSizesWrong : ChangeSpec := { name := "worldSizes", fn := fun _ => fun
  | [d] => { results := [.lit (.bool false)], args := [d] }
  | _ => none }
def WorldSizesWrongFalsely : Prop := worldSizesRow.holds Tryz.pinned (OpenSpec.ofChange worldSizesWrong)

/-- 'armariumlaw22.WorldTime': WHATEVER THE INPUT: true; the input reads as it did. -/
def worldTimeSpec : ChangeSpec := { name := "worldTime", fn := fun _ => fun
  | [d1, d2] => { results := [.lit (.bool true)], args := [d1, d2] }
  | _ => none }
def worldTimeRow : OpenClaim := { program := "ytikedhemjoljpaagreatdoor", sum := "31f507c31909ecaf11fd9c5f9364036158cb663d9839c29b24d5e64319532922", func := "armarium/armariumlaw22.WorldTime", spec := "worldTime", inPlace := ["math.archTrunc", "math.Float64bits", "math.Float64frombits", "internal/abi.NoEscape", "internal/bytealg.IndexByteString", "slices.overlaps[armarium/api.Entry]", "slices.overlaps[armarium/api.Memo]", "internal/bytealg.MakeNoZero", "internal/bytealg.IndexString", "internal/bytealg.CountString"], unfollowed := true, recurses := true, named := ["internal/strconv.uint64pow10", "math/bits.deBruijn32tab", "math/bits.deBruijn64tab", "strconv.ErrSyntax", "strconv.ErrRange", "unicode/utf8.first", "unicode/utf8.acceptRanges", "unicode.CaseRanges", "internal/bytealg.MaxLen"], plainKeys := false, apart := false, laid := [("internal/strconv.uint64pow10", laid_internal_strconv_uint64pow10), ("math/bits.deBruijn32tab", laid_math_bits_deBruijn32tab), ("math/bits.deBruijn64tab", laid_math_bits_deBruijn64tab), ("strconv.ErrSyntax", laid_strconv_ErrSyntax), ("strconv.ErrRange", laid_strconv_ErrRange), ("unicode/utf8.first", laid_unicode_utf8_first), ("unicode/utf8.acceptRanges", laid_unicode_utf8_acceptRanges), ("unicode.CaseRanges", laid_unicode_CaseRanges)] }
def WorldTimeSaid : Prop := worldTimeRow.holds Tryz.pinned (OpenSpec.ofChange worldTimeSpec)

/-- ITS FALSE NEIGHBOUR: 'it returns false'. Refute it at one input. -/
def worldTimeWrong : ChangeSpec := { name := "worldTime", fn := fun _ => fun
  | [d1, d2] => { results := [.lit (.bool false)], args := [d1, d2] }
  | _ => none }
def WorldTimeWrongFalsely : Prop := worldTimeRow.holds Tryz.pinned (OpenSpec.ofChange worldTimeWrong)

/-- 'armariumlaw22.WorldDown': WHATEVER THE INPUT: true; the input reads as it did. -/
def worldDownSpec : ChangeSpec := { name := "worldDown", fn := fun _ => fun
  | [d] => { results := [.lit (.bool true)], args := [d] }
  | _ => none }
def worldDownRow : OpenClaim := { program := "ytikedhemjoljpaagreatdoor", sum := "31f507c31909ecaf11fd9c5f9364036158cb663d9839c29b24d5e64319532922", func := "armarium/armariumlaw22.WorldDown", spec := "worldDown", inPlace := ["math.archTrunc", "math.Float64bits", "math.Float64frombits", "internal/abi.NoEscape", "internal/bytealg.IndexByteString", "slices.overlaps[armarium/api.Entry]", "slices.overlaps[armarium/api.Memo]", "internal/bytealg.MakeNoZero", "internal/bytealg.IndexString", "internal/bytealg.CountString"], unfollowed := true, recurses := true, named := ["internal/strconv.uint64pow10", "math/bits.deBruijn32tab", "math/bits.deBruijn64tab", "strconv.ErrSyntax", "strconv.ErrRange", "unicode/utf8.first", "unicode/utf8.acceptRanges", "unicode.CaseRanges", "internal/bytealg.MaxLen"], plainKeys := false, apart := false, laid := [("internal/strconv.uint64pow10", laid_internal_strconv_uint64pow10), ("math/bits.deBruijn32tab", laid_math_bits_deBruijn32tab), ("math/bits.deBruijn64tab", laid_math_bits_deBruijn64tab), ("strconv.ErrSyntax", laid_strconv_ErrSyntax), ("strconv.ErrRange", laid_strconv_ErrRange), ("unicode/utf8.first", laid_unicode_utf8_first), ("unicode/utf8.acceptRanges", laid_unicode_utf8_acceptRanges), ("unicode.CaseRanges", laid_unicode_CaseRanges)] }
def WorldDownSaid : Prop := worldDownRow.holds Tryz.pinned (OpenSpec.ofChange worldDownSpec)

/-- ITS FALSE NEIGHBOUR: 'it returns false'. Refute it at one input. -/
def worldDownWrong : ChangeSpec := { name := "worldDown", fn := fun _ => fun
  | [d] => { results := [.lit (.bool false)], args := [d] }
  | _ => none }
def WorldDownWrongFalsely : Prop := worldDownRow.holds Tryz.pinned (OpenSpec.ofChange worldDownWrong)

/-- 'armariumlaw22.ScriptErrors': WHATEVER THE INPUT: true; the input reads as it did. -/
def scriptErrorsSpec : ChangeSpec := { name := "scriptErrors", fn := fun _ => fun
  | [d1, d2, d3] => { results := [.lit (.bool true)], args := [d1, d2, d3] }
  | _ => none }
def scriptErrorsRow : OpenClaim := { program := "ytikedhemjoljpaagreatdoor", sum := "31f507c31909ecaf11fd9c5f9364036158cb663d9839c29b24d5e64319532922", func := "armarium/armariumlaw22.ScriptErrors", spec := "scriptErrors", inPlace := ["math.archTrunc", "math.Float64bits", "math.Float64frombits", "internal/abi.NoEscape", "internal/bytealg.IndexByteString", "slices.overlaps[armarium/api.Entry]", "slices.overlaps[armarium/api.Memo]", "internal/bytealg.MakeNoZero", "internal/bytealg.IndexString", "internal/bytealg.CountString"], unfollowed := true, recurses := true, named := ["internal/strconv.uint64pow10", "math/bits.deBruijn32tab", "math/bits.deBruijn64tab", "strconv.ErrSyntax", "strconv.ErrRange", "unicode/utf8.first", "unicode/utf8.acceptRanges", "unicode.CaseRanges", "internal/bytealg.MaxLen"], plainKeys := false, apart := false, laid := [("internal/strconv.uint64pow10", laid_internal_strconv_uint64pow10), ("math/bits.deBruijn32tab", laid_math_bits_deBruijn32tab), ("math/bits.deBruijn64tab", laid_math_bits_deBruijn64tab), ("strconv.ErrSyntax", laid_strconv_ErrSyntax), ("strconv.ErrRange", laid_strconv_ErrRange), ("unicode/utf8.first", laid_unicode_utf8_first), ("unicode/utf8.acceptRanges", laid_unicode_utf8_acceptRanges), ("unicode.CaseRanges", laid_unicode_CaseRanges)] }
def ScriptErrorsSaid : Prop := scriptErrorsRow.holds Tryz.pinned (OpenSpec.ofChange scriptErrorsSpec)

/-- ITS FALSE NEIGHBOUR: 'it returns false'. Refute it at one input. -/
def scriptErrorsWrong : ChangeSpec := { name := "scriptErrors", fn := fun _ => fun
  | [d1, d2, d3] => { results := [.lit (.bool false)], args := [d1, d2, d3] }
  | _ => none }
def ScriptErrorsWrongFalsely : Prop := scriptErrorsRow.holds Tryz.pinned (OpenSpec.ofChange scriptErrorsWrong)

/-- 'armariumlaw22.CalmQuiet': WHATEVER THE INPUT: true; the input reads as it did. -/
def calmQuietSpec : ChangeSpec := { name := "calmQuiet", fn := fun _ => fun
  | [d1, d2] => { results := [.lit (.bool true)], args := [d1, d2] }
  | _ => none }
def calmQuietRow : OpenClaim := { program := "ytikedhemjoljpaagreatdoor", sum := "31f507c31909ecaf11fd9c5f9364036158cb663d9839c29b24d5e64319532922", func := "armarium/armariumlaw22.CalmQuiet", spec := "calmQuiet", inPlace := ["math.archTrunc", "math.Float64bits", "math.Float64frombits", "internal/abi.NoEscape", "internal/bytealg.IndexByteString", "slices.overlaps[armarium/api.Entry]", "slices.overlaps[armarium/api.Memo]", "internal/bytealg.MakeNoZero", "internal/bytealg.IndexString", "internal/bytealg.CountString"], unfollowed := true, recurses := true, named := ["internal/strconv.uint64pow10", "math/bits.deBruijn32tab", "math/bits.deBruijn64tab", "strconv.ErrSyntax", "strconv.ErrRange", "unicode/utf8.first", "unicode/utf8.acceptRanges", "unicode.CaseRanges", "internal/bytealg.MaxLen"], plainKeys := false, apart := false, laid := [("internal/strconv.uint64pow10", laid_internal_strconv_uint64pow10), ("math/bits.deBruijn32tab", laid_math_bits_deBruijn32tab), ("math/bits.deBruijn64tab", laid_math_bits_deBruijn64tab), ("strconv.ErrSyntax", laid_strconv_ErrSyntax), ("strconv.ErrRange", laid_strconv_ErrRange), ("unicode/utf8.first", laid_unicode_utf8_first), ("unicode/utf8.acceptRanges", laid_unicode_utf8_acceptRanges), ("unicode.CaseRanges", laid_unicode_CaseRanges)] }
def CalmQuietSaid : Prop := calmQuietRow.holds Tryz.pinned (OpenSpec.ofChange calmQuietSpec)

/-- ITS FALSE NEIGHBOUR: 'it returns false'. Refute it at one input. -/
def calmQuietWrong : ChangeSpec := { name := "calmQuiet", fn := fun _ => fun
  | [d1, d2] => { results := [.lit (.bool false)], args := [d1, d2] }
  | _ => none }
def CalmQuietWrongFalsely : Prop := calmQuietRow.holds Tryz.pinned (OpenSpec.ofChange calmQuietWrong)

/- THE SECOND FORM. 'bulk': how many values and letters a reading holds, each counted each time it is reached (what is shared counts as often as it is met; a slice's spare places count too). A statement '..UptoSaid' is the law's where the arguments, and the package variables that the reading takes, are together of bulk at most 1048576: NARROWER than '..Said'. Prove '..Said' where nothing that the law and all that it calls make is longer than what came in: it says more and counts as full. Else prove '..UptoSaid'. A law counts once. -/
mutual
def uptoBulk {H : Type} : DataW H → Nat
  | .lit (.string bytes) => bytes.length + 1
  | .lit _ => 1
  | .nil => 1
  | .ptr d => uptoBulk d + 1
  | .slice elems spare => uptoBulkAll elems + uptoBulkAll spare + 1
  | .agg parts => uptoBulkAll parts + 1
  | .iface _ d => uptoBulk d + 1
  | .map entries => uptoBulkEntries entries + 1
  | .held _ => 1
def uptoBulkAll {H : Type} : List (DataW H) → Nat
  | [] => 0
  | d :: r => uptoBulk d + uptoBulkAll r
def uptoBulkEntries {H : Type} : List (Lit × DataW H) → Nat
  | [] => 0
  | x :: r => uptoBulkEntry x + uptoBulkEntries r
def uptoBulkEntry {H : Type} : Lit × DataW H → Nat
  | (.string bytes, d) => bytes.length + uptoBulk d + 1
  | (_, d) => uptoBulk d + 1
 end
def uptoSmall : (H : Type) → List (DataW H) → Bool := fun _ ds => decide (uptoBulkAll ds ≤ 1048576)
def OpenSpec.upto (s : _root_.Go.ChangeSpec) : _root_.Go.OpenSpec := { _root_.Go.OpenSpec.ofChange s with cond := some uptoSmall }

/-- 'armariumlaw22.WorldNone', WHERE WHAT IT READS IS OF BULK AT MOST 1048576: true; the input reads as it did. -/
def worldNoneUptoRow : OpenClaim := { program := "ytikedhemjoljpaagreatdoor", sum := "31f507c31909ecaf11fd9c5f9364036158cb663d9839c29b24d5e64319532922", func := "armarium/armariumlaw22.WorldNone", spec := "worldNone", inPlace := ["math.archTrunc", "math.Float64bits", "math.Float64frombits", "internal/abi.NoEscape", "internal/bytealg.IndexByteString", "slices.overlaps[armarium/api.Entry]", "slices.overlaps[armarium/api.Memo]", "internal/bytealg.MakeNoZero", "internal/bytealg.IndexString", "internal/bytealg.CountString"], unfollowed := true, recurses := true, named := ["internal/strconv.uint64pow10", "math/bits.deBruijn32tab", "math/bits.deBruijn64tab", "strconv.ErrSyntax", "strconv.ErrRange", "unicode/utf8.first", "unicode/utf8.acceptRanges", "unicode.CaseRanges", "internal/bytealg.MaxLen"], plainKeys := false, apart := false, laid := [("internal/strconv.uint64pow10", laid_internal_strconv_uint64pow10), ("math/bits.deBruijn32tab", laid_math_bits_deBruijn32tab), ("math/bits.deBruijn64tab", laid_math_bits_deBruijn64tab), ("strconv.ErrSyntax", laid_strconv_ErrSyntax), ("strconv.ErrRange", laid_strconv_ErrRange), ("unicode/utf8.first", laid_unicode_utf8_first), ("unicode/utf8.acceptRanges", laid_unicode_utf8_acceptRanges), ("unicode.CaseRanges", laid_unicode_CaseRanges)], narrowed := true }
def WorldNoneUptoSaid : Prop := worldNoneUptoRow.holds Tryz.pinned (OpenSpec.upto worldNoneSpec)

/-- 'armariumlaw22.WorldSizes', WHERE WHAT IT READS IS OF BULK AT MOST 1048576: true; the input reads as it did. -/
def worldSizesUptoRow : OpenClaim := { program := "ytikedhemjoljpaagreatdoor", sum := "31f507c31909ecaf11fd9c5f9364036158cb663d9839c29b24d5e64319532922", func := "armarium/armariumlaw22.WorldSizes", spec := "worldSizes", inPlace := ["math.archTrunc", "math.Float64bits", "math.Float64frombits", "internal/abi.NoEscape", "internal/bytealg.IndexByteString", "slices.overlaps[armarium/api.Entry]", "slices.overlaps[armarium/api.Memo]", "internal/bytealg.MakeNoZero", "internal/bytealg.IndexString", "internal/bytealg.CountString"], unfollowed := true, recurses := true, named := ["internal/strconv.uint64pow10", "math/bits.deBruijn32tab", "math/bits.deBruijn64tab", "strconv.ErrSyntax", "strconv.ErrRange", "unicode/utf8.first", "unicode/utf8.acceptRanges", "unicode.CaseRanges", "internal/bytealg.MaxLen"], plainKeys := false, apart := false, laid := [("internal/strconv.uint64pow10", laid_internal_strconv_uint64pow10), ("math/bits.deBruijn32tab", laid_math_bits_deBruijn32tab), ("math/bits.deBruijn64tab", laid_math_bits_deBruijn64tab), ("strconv.ErrSyntax", laid_strconv_ErrSyntax), ("strconv.ErrRange", laid_strconv_ErrRange), ("unicode/utf8.first", laid_unicode_utf8_first), ("unicode/utf8.acceptRanges", laid_unicode_utf8_acceptRanges), ("unicode.CaseRanges", laid_unicode_CaseRanges)], narrowed := true }
def WorldSizesUptoSaid : Prop := worldSizesUptoRow.holds Tryz.pinned (OpenSpec.upto worldSizesSpec)

/-- 'armariumlaw22.WorldTime', WHERE WHAT IT READS IS OF BULK AT MOST 1048576: true; the input reads as it did. -/
def worldTimeUptoRow : OpenClaim := { program := "ytikedhemjoljpaagreatdoor", sum := "31f507c31909ecaf11fd9c5f9364036158cb663d9839c29b24d5e64319532922", func := "armarium/armariumlaw22.WorldTime", spec := "worldTime", inPlace := ["math.archTrunc", "math.Float64bits", "math.Float64frombits", "internal/abi.NoEscape", "internal/bytealg.IndexByteString", "slices.overlaps[armarium/api.Entry]", "slices.overlaps[armarium/api.Memo]", "internal/bytealg.MakeNoZero", "internal/bytealg.IndexString", "internal/bytealg.CountString"], unfollowed := true, recurses := true, named := ["internal/strconv.uint64pow10", "math/bits.deBruijn32tab", "math/bits.deBruijn64tab", "strconv.ErrSyntax", "strconv.ErrRange", "unicode/utf8.first", "unicode/utf8.acceptRanges", "unicode.CaseRanges", "internal/bytealg.MaxLen"], plainKeys := false, apart := false, laid := [("internal/strconv.uint64pow10", laid_internal_strconv_uint64pow10), ("math/bits.deBruijn32tab", laid_math_bits_deBruijn32tab), ("math/bits.deBruijn64tab", laid_math_bits_deBruijn64tab), ("strconv.ErrSyntax", laid_strconv_ErrSyntax), ("strconv.ErrRange", laid_strconv_ErrRange), ("unicode/utf8.first", laid_unicode_utf8_first), ("unicode/utf8.acceptRanges", laid_unicode_utf8_acceptRanges), ("unicode.CaseRanges", laid_unicode_CaseRanges)], narrowed := true }
def WorldTimeUptoSaid : Prop := worldTimeUptoRow.holds Tryz.pinned (OpenSpec.upto worldTimeSpec)

/-- 'armariumlaw22.WorldDown', WHERE WHAT IT READS IS OF BULK AT MOST 1048576: true; the input reads as it did. -/
def worldDownUptoRow : OpenClaim := { program := "ytikedhemjoljpaagreatdoor", sum := "31f507c31909ecaf11fd9c5f9364036158cb663d9839c29b24d5e64319532922", func := "armarium/armariumlaw22.WorldDown", spec := "worldDown", inPlace := ["math.archTrunc", "math.Float64bits", "math.Float64frombits", "internal/abi.NoEscape", "internal/bytealg.IndexByteString", "slices.overlaps[armarium/api.Entry]", "slices.overlaps[armarium/api.Memo]", "internal/bytealg.MakeNoZero", "internal/bytealg.IndexString", "internal/bytealg.CountString"], unfollowed := true, recurses := true, named := ["internal/strconv.uint64pow10", "math/bits.deBruijn32tab", "math/bits.deBruijn64tab", "strconv.ErrSyntax", "strconv.ErrRange", "unicode/utf8.first", "unicode/utf8.acceptRanges", "unicode.CaseRanges", "internal/bytealg.MaxLen"], plainKeys := false, apart := false, laid := [("internal/strconv.uint64pow10", laid_internal_strconv_uint64pow10), ("math/bits.deBruijn32tab", laid_math_bits_deBruijn32tab), ("math/bits.deBruijn64tab", laid_math_bits_deBruijn64tab), ("strconv.ErrSyntax", laid_strconv_ErrSyntax), ("strconv.ErrRange", laid_strconv_ErrRange), ("unicode/utf8.first", laid_unicode_utf8_first), ("unicode/utf8.acceptRanges", laid_unicode_utf8_acceptRanges), ("unicode.CaseRanges", laid_unicode_CaseRanges)], narrowed := true }
def WorldDownUptoSaid : Prop := worldDownUptoRow.holds Tryz.pinned (OpenSpec.upto worldDownSpec)

/-- 'armariumlaw22.ScriptErrors', WHERE WHAT IT READS IS OF BULK AT MOST 1048576: true; the input reads as it did. -/
def scriptErrorsUptoRow : OpenClaim := { program := "ytikedhemjoljpaagreatdoor", sum := "31f507c31909ecaf11fd9c5f9364036158cb663d9839c29b24d5e64319532922", func := "armarium/armariumlaw22.ScriptErrors", spec := "scriptErrors", inPlace := ["math.archTrunc", "math.Float64bits", "math.Float64frombits", "internal/abi.NoEscape", "internal/bytealg.IndexByteString", "slices.overlaps[armarium/api.Entry]", "slices.overlaps[armarium/api.Memo]", "internal/bytealg.MakeNoZero", "internal/bytealg.IndexString", "internal/bytealg.CountString"], unfollowed := true, recurses := true, named := ["internal/strconv.uint64pow10", "math/bits.deBruijn32tab", "math/bits.deBruijn64tab", "strconv.ErrSyntax", "strconv.ErrRange", "unicode/utf8.first", "unicode/utf8.acceptRanges", "unicode.CaseRanges", "internal/bytealg.MaxLen"], plainKeys := false, apart := false, laid := [("internal/strconv.uint64pow10", laid_internal_strconv_uint64pow10), ("math/bits.deBruijn32tab", laid_math_bits_deBruijn32tab), ("math/bits.deBruijn64tab", laid_math_bits_deBruijn64tab), ("strconv.ErrSyntax", laid_strconv_ErrSyntax), ("strconv.ErrRange", laid_strconv_ErrRange), ("unicode/utf8.first", laid_unicode_utf8_first), ("unicode/utf8.acceptRanges", laid_unicode_utf8_acceptRanges), ("unicode.CaseRanges", laid_unicode_CaseRanges)], narrowed := true }
def ScriptErrorsUptoSaid : Prop := scriptErrorsUptoRow.holds Tryz.pinned (OpenSpec.upto scriptErrorsSpec)

/-- 'armariumlaw22.CalmQuiet', WHERE WHAT IT READS IS OF BULK AT MOST 1048576: true; the input reads as it did. -/
def calmQuietUptoRow : OpenClaim := { program := "ytikedhemjoljpaagreatdoor", sum := "31f507c31909ecaf11fd9c5f9364036158cb663d9839c29b24d5e64319532922", func := "armarium/armariumlaw22.CalmQuiet", spec := "calmQuiet", inPlace := ["math.archTrunc", "math.Float64bits", "math.Float64frombits", "internal/abi.NoEscape", "internal/bytealg.IndexByteString", "slices.overlaps[armarium/api.Entry]", "slices.overlaps[armarium/api.Memo]", "internal/bytealg.MakeNoZero", "internal/bytealg.IndexString", "internal/bytealg.CountString"], unfollowed := true, recurses := true, named := ["internal/strconv.uint64pow10", "math/bits.deBruijn32tab", "math/bits.deBruijn64tab", "strconv.ErrSyntax", "strconv.ErrRange", "unicode/utf8.first", "unicode/utf8.acceptRanges", "unicode.CaseRanges", "internal/bytealg.MaxLen"], plainKeys := false, apart := false, laid := [("internal/strconv.uint64pow10", laid_internal_strconv_uint64pow10), ("math/bits.deBruijn32tab", laid_math_bits_deBruijn32tab), ("math/bits.deBruijn64tab", laid_math_bits_deBruijn64tab), ("strconv.ErrSyntax", laid_strconv_ErrSyntax), ("strconv.ErrRange", laid_strconv_ErrRange), ("unicode/utf8.first", laid_unicode_utf8_first), ("unicode/utf8.acceptRanges", laid_unicode_utf8_acceptRanges), ("unicode.CaseRanges", laid_unicode_CaseRanges)], narrowed := true }
def CalmQuietUptoSaid : Prop := calmQuietUptoRow.holds Tryz.pinned (OpenSpec.upto calmQuietSpec)

end Rows
end Go.Proofs.YtikedhemjoljpaaGreatDoor
