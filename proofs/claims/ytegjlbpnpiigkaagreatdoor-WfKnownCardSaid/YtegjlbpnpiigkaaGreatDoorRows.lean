/-
  NARROWER THAN 'FOR EVERY INPUT', by the rows' own cells (each row's printed sentence says how): WfCheck: laid · WfPlaces: laid · WfNames: laid · WfKnown: laid · StaticAll: laid · StaticFollows: laid · StaticReach: laid · StaticKnown: laid.
  DERIVED. THE GIVEN ROWS OF THIS SEAT. 8 by the template 'for every input the law returns true; each argument reads behind the call as it read before'; 0 by the template 'total and deterministic' (their statements: YtegjlbpnpiigkaaGreatDoorTotals.lean).
  GIVEN WITH THE SEED: the statements are not yours to turn. If you find one false, say at which input.
  Laid BY PROGRAM, IN A SANDBOX (cutbox-rows.mjs): the forced cells as the released guide's own fill.sh prints them over the translation 152f6faf3a0c6170… (all of the seat's roots in one cut). By AI agents, Wed Nov 11 2026. No macro, syntax, notation, axiom, sorry.
-/
import Derived.Test.YtegjlbpnpiigkaaGreatDoorChecked
import GoSem.PinnedTables
import GoSem.Claim
import GoSem.ClaimJoined
import GoSem.ClaimMapViews
import Derived.JoinedTies
import Derived.KernelRfl
namespace Go.Proofs.YtegjlbpnpiigkaaGreatDoor
/- THE CELL 'sum', in the pinned program and in every row, IS THE sha256 OF THE DUMP (.gsa) THAT YtegjlbpnpiigkaaGreatDoorProg.lean LOADS. Nothing in Lean hashes anything: it is a label: what it is worth is what the hold of that sum in a sandbox is worth. -/
noncomputable def Tryz.pinned : Pinned := { name := "ytegjlbpnpiigkaagreatdoor", sum := "152f6faf3a0c61701743a11824e891dac4d490a1e161660fca14fc3a6f48feda", checked := Tryz.checked }
namespace Rows
def none {H : Type} : Left H := { results := [], args := [] }

/- WHAT THE LISTED PACKAGE-LEVEL VARIABLES READ AS WHEN THE CALL BEGINS. Each datum BY PROGRAM (the guide's laid-datum.mjs) off the statement by which the dump's own 'gosem.cut.vars' lays the variable. In a bare row this is a premise. The card (YtegjlbpnpiigkaaGreatDoorCards.lean) ties it to the program's text. -/
def laid_math_bits_deBruijn32tab {H : Type} : DataW H := .agg [.lit (.int .u8 0), .lit (.int .u8 1), .lit (.int .u8 28), .lit (.int .u8 2), .lit (.int .u8 29), .lit (.int .u8 14), .lit (.int .u8 24), .lit (.int .u8 3), .lit (.int .u8 30), .lit (.int .u8 22), .lit (.int .u8 20), .lit (.int .u8 15), .lit (.int .u8 25), .lit (.int .u8 17), .lit (.int .u8 4), .lit (.int .u8 8), .lit (.int .u8 31), .lit (.int .u8 27), .lit (.int .u8 13), .lit (.int .u8 23), .lit (.int .u8 21), .lit (.int .u8 19), .lit (.int .u8 16), .lit (.int .u8 7), .lit (.int .u8 26), .lit (.int .u8 12), .lit (.int .u8 18), .lit (.int .u8 6), .lit (.int .u8 11), .lit (.int .u8 5), .lit (.int .u8 10), .lit (.int .u8 9)]
def laid_math_bits_deBruijn64tab {H : Type} : DataW H := .agg [.lit (.int .u8 0), .lit (.int .u8 1), .lit (.int .u8 56), .lit (.int .u8 2), .lit (.int .u8 57), .lit (.int .u8 49), .lit (.int .u8 28), .lit (.int .u8 3), .lit (.int .u8 61), .lit (.int .u8 58), .lit (.int .u8 42), .lit (.int .u8 50), .lit (.int .u8 38), .lit (.int .u8 29), .lit (.int .u8 17), .lit (.int .u8 4), .lit (.int .u8 62), .lit (.int .u8 47), .lit (.int .u8 59), .lit (.int .u8 36), .lit (.int .u8 45), .lit (.int .u8 43), .lit (.int .u8 51), .lit (.int .u8 22), .lit (.int .u8 53), .lit (.int .u8 39), .lit (.int .u8 33), .lit (.int .u8 30), .lit (.int .u8 24), .lit (.int .u8 18), .lit (.int .u8 12), .lit (.int .u8 5), .lit (.int .u8 63), .lit (.int .u8 55), .lit (.int .u8 48), .lit (.int .u8 27), .lit (.int .u8 60), .lit (.int .u8 41), .lit (.int .u8 37), .lit (.int .u8 16), .lit (.int .u8 46), .lit (.int .u8 35), .lit (.int .u8 44), .lit (.int .u8 21), .lit (.int .u8 52), .lit (.int .u8 32), .lit (.int .u8 23), .lit (.int .u8 11), .lit (.int .u8 54), .lit (.int .u8 26), .lit (.int .u8 40), .lit (.int .u8 15), .lit (.int .u8 34), .lit (.int .u8 20), .lit (.int .u8 31), .lit (.int .u8 10), .lit (.int .u8 25), .lit (.int .u8 14), .lit (.int .u8 19), .lit (.int .u8 9), .lit (.int .u8 13), .lit (.int .u8 8), .lit (.int .u8 7), .lit (.int .u8 6)]
def laid_internal_strconv_uint64pow10 {H : Type} : DataW H := .agg [.lit (.int .u64 1), .lit (.int .u64 10), .lit (.int .u64 100), .lit (.int .u64 1000), .lit (.int .u64 10000), .lit (.int .u64 100000), .lit (.int .u64 1000000), .lit (.int .u64 10000000), .lit (.int .u64 100000000), .lit (.int .u64 1000000000), .lit (.int .u64 10000000000), .lit (.int .u64 100000000000), .lit (.int .u64 1000000000000), .lit (.int .u64 10000000000000), .lit (.int .u64 100000000000000), .lit (.int .u64 1000000000000000), .lit (.int .u64 10000000000000000), .lit (.int .u64 100000000000000000), .lit (.int .u64 1000000000000000000), .lit (.int .u64 10000000000000000000)]
def laid_unicode_utf8_acceptRanges {H : Type} : DataW H := .agg [.agg [.lit (.int .u8 128), .lit (.int .u8 191)], .agg [.lit (.int .u8 160), .lit (.int .u8 191)], .agg [.lit (.int .u8 128), .lit (.int .u8 159)], .agg [.lit (.int .u8 144), .lit (.int .u8 191)], .agg [.lit (.int .u8 128), .lit (.int .u8 143)], .agg [.lit (.int .u8 0), .lit (.int .u8 0)], .agg [.lit (.int .u8 0), .lit (.int .u8 0)], .agg [.lit (.int .u8 0), .lit (.int .u8 0)], .agg [.lit (.int .u8 0), .lit (.int .u8 0)], .agg [.lit (.int .u8 0), .lit (.int .u8 0)], .agg [.lit (.int .u8 0), .lit (.int .u8 0)], .agg [.lit (.int .u8 0), .lit (.int .u8 0)], .agg [.lit (.int .u8 0), .lit (.int .u8 0)], .agg [.lit (.int .u8 0), .lit (.int .u8 0)], .agg [.lit (.int .u8 0), .lit (.int .u8 0)], .agg [.lit (.int .u8 0), .lit (.int .u8 0)]]
def laid_strconv_ErrRange {H : Type} : DataW H := .iface "*errors.errorString" (.ptr (.agg [.lit (.string [118, 97, 108, 117, 101, 32, 111, 117, 116, 32, 111, 102, 32, 114, 97, 110, 103, 101])]))
def laid_strconv_ErrSyntax {H : Type} : DataW H := .iface "*errors.errorString" (.ptr (.agg [.lit (.string [105, 110, 118, 97, 108, 105, 100, 32, 115, 121, 110, 116, 97, 120])]))
def laid_hopscotch_lex_signs {H : Type} : DataW H := .agg [.lit (.string [58, 61]), .lit (.string [60, 62]), .lit (.string [60, 61]), .lit (.string [62, 61]), .lit (.string [60]), .lit (.string [62]), .lit (.string [61]), .lit (.string [43]), .lit (.string [45]), .lit (.string [42]), .lit (.string [40]), .lit (.string [41]), .lit (.string [44]), .lit (.string [59])]
/-- One of Go's own tables, pinned by name: the form's constant. -/
def laid_unicode_utf8_first : DataW Unit := Go.Pinned.utf8First

/-- 'hopscotchlaw17.WfCheck': WHATEVER THE INPUT: true; the input reads as it did. -/
def wfCheckSpec : ChangeSpec := { name := "wfCheck", fn := fun _ => fun
  | [d] => { results := [.lit (.bool true)], args := [d] }
  | _ => none }
def wfCheckRow : OpenClaim := { program := "ytegjlbpnpiigkaagreatdoor", sum := "152f6faf3a0c61701743a11824e891dac4d490a1e161660fca14fc3a6f48feda", func := "hopscotch/hopscotchlaw17.WfCheck", spec := "wfCheck", inPlace := ["internal/bytealg.IndexByteString", "internal/bytealg.IndexString", "internal/reflectlite.TypeOf"], unfollowed := true, recurses := true, named := ["hopscotch/lex.signs", "internal/bytealg.MaxLen", "unicode/utf8.first", "unicode/utf8.acceptRanges", "strconv.ErrRange", "strconv.ErrSyntax", "internal/strconv.uint64pow10", "math/bits.deBruijn32tab", "math/bits.deBruijn64tab"], apart := false, laid := [("math/bits.deBruijn32tab", laid_math_bits_deBruijn32tab), ("math/bits.deBruijn64tab", laid_math_bits_deBruijn64tab), ("internal/strconv.uint64pow10", laid_internal_strconv_uint64pow10), ("unicode/utf8.acceptRanges", laid_unicode_utf8_acceptRanges), ("strconv.ErrRange", laid_strconv_ErrRange), ("strconv.ErrSyntax", laid_strconv_ErrSyntax), ("hopscotch/lex.signs", laid_hopscotch_lex_signs), ("unicode/utf8.first", laid_unicode_utf8_first)] }
def WfCheckSaid : Prop := wfCheckRow.holds Tryz.pinned (OpenSpec.ofChange wfCheckSpec)

/-- ITS FALSE NEIGHBOUR: 'it returns false'. Refute it at one input. -/
def wfCheckWrong : ChangeSpec := { name := "wfCheck", fn := fun _ => fun
  | [d] => { results := [.lit (.bool false)], args := [d] }
  | _ => none }
def WfCheckWrongFalsely : Prop := wfCheckRow.holds Tryz.pinned (OpenSpec.ofChange wfCheckWrong)

/-- 'hopscotchlaw17.WfPlaces': WHATEVER THE INPUT: true; the input reads as it did. -/
def wfPlacesSpec : ChangeSpec := { name := "wfPlaces", fn := fun _ => fun
  | [d] => { results := [.lit (.bool true)], args := [d] }
  | _ => none }
def wfPlacesRow : OpenClaim := { program := "ytegjlbpnpiigkaagreatdoor", sum := "152f6faf3a0c61701743a11824e891dac4d490a1e161660fca14fc3a6f48feda", func := "hopscotch/hopscotchlaw17.WfPlaces", spec := "wfPlaces", inPlace := ["internal/bytealg.IndexByteString", "internal/bytealg.IndexString", "internal/reflectlite.TypeOf"], unfollowed := true, recurses := true, named := ["hopscotch/lex.signs", "internal/bytealg.MaxLen", "unicode/utf8.first", "unicode/utf8.acceptRanges", "strconv.ErrRange", "strconv.ErrSyntax", "internal/strconv.uint64pow10", "math/bits.deBruijn32tab", "math/bits.deBruijn64tab"], apart := false, laid := [("math/bits.deBruijn32tab", laid_math_bits_deBruijn32tab), ("math/bits.deBruijn64tab", laid_math_bits_deBruijn64tab), ("internal/strconv.uint64pow10", laid_internal_strconv_uint64pow10), ("unicode/utf8.acceptRanges", laid_unicode_utf8_acceptRanges), ("strconv.ErrRange", laid_strconv_ErrRange), ("strconv.ErrSyntax", laid_strconv_ErrSyntax), ("hopscotch/lex.signs", laid_hopscotch_lex_signs), ("unicode/utf8.first", laid_unicode_utf8_first)] }
def WfPlacesSaid : Prop := wfPlacesRow.holds Tryz.pinned (OpenSpec.ofChange wfPlacesSpec)

/-- ITS FALSE NEIGHBOUR: 'it returns false'. Refute it at one input. -/
def wfPlacesWrong : ChangeSpec := { name := "wfPlaces", fn := fun _ => fun
  | [d] => { results := [.lit (.bool false)], args := [d] }
  | _ => none }
def WfPlacesWrongFalsely : Prop := wfPlacesRow.holds Tryz.pinned (OpenSpec.ofChange wfPlacesWrong)

/-- 'hopscotchlaw17.WfNames': WHATEVER THE INPUT: true; the input reads as it did. -/
def wfNamesSpec : ChangeSpec := { name := "wfNames", fn := fun _ => fun
  | [d1, d2, d3] => { results := [.lit (.bool true)], args := [d1, d2, d3] }
  | _ => none }
def wfNamesRow : OpenClaim := { program := "ytegjlbpnpiigkaagreatdoor", sum := "152f6faf3a0c61701743a11824e891dac4d490a1e161660fca14fc3a6f48feda", func := "hopscotch/hopscotchlaw17.WfNames", spec := "wfNames", inPlace := ["internal/bytealg.IndexByteString", "internal/bytealg.IndexString", "internal/reflectlite.TypeOf"], unfollowed := true, recurses := true, named := ["hopscotch/lex.signs", "internal/bytealg.MaxLen", "unicode/utf8.first", "unicode/utf8.acceptRanges", "strconv.ErrRange", "strconv.ErrSyntax", "internal/strconv.uint64pow10", "math/bits.deBruijn32tab", "math/bits.deBruijn64tab"], apart := false, laid := [("math/bits.deBruijn32tab", laid_math_bits_deBruijn32tab), ("math/bits.deBruijn64tab", laid_math_bits_deBruijn64tab), ("internal/strconv.uint64pow10", laid_internal_strconv_uint64pow10), ("unicode/utf8.acceptRanges", laid_unicode_utf8_acceptRanges), ("strconv.ErrRange", laid_strconv_ErrRange), ("strconv.ErrSyntax", laid_strconv_ErrSyntax), ("hopscotch/lex.signs", laid_hopscotch_lex_signs), ("unicode/utf8.first", laid_unicode_utf8_first)] }
def WfNamesSaid : Prop := wfNamesRow.holds Tryz.pinned (OpenSpec.ofChange wfNamesSpec)

/-- ITS FALSE NEIGHBOUR: 'it returns false'. Refute it at one input. -/
def wfNamesWrong : ChangeSpec := { name := "wfNames", fn := fun _ => fun
  | [d1, d2, d3] => { results := [.lit (.bool false)], args := [d1, d2, d3] }
  | _ => none }
def WfNamesWrongFalsely : Prop := wfNamesRow.holds Tryz.pinned (OpenSpec.ofChange wfNamesWrong)

/-- 'hopscotchlaw17.WfKnown': WHATEVER THE INPUT: true; the input reads as it did. -/
def wfKnownSpec : ChangeSpec := { name := "wfKnown", fn := fun _ => fun
  | [] => { results := [.lit (.bool true)], args := [] }
  | _ => none }
def wfKnownRow : OpenClaim := { program := "ytegjlbpnpiigkaagreatdoor", sum := "152f6faf3a0c61701743a11824e891dac4d490a1e161660fca14fc3a6f48feda", func := "hopscotch/hopscotchlaw17.WfKnown", spec := "wfKnown", inPlace := ["internal/bytealg.IndexByteString", "internal/bytealg.IndexString", "internal/reflectlite.TypeOf"], unfollowed := true, recurses := true, named := ["hopscotch/lex.signs", "internal/bytealg.MaxLen", "unicode/utf8.first", "unicode/utf8.acceptRanges", "strconv.ErrRange", "strconv.ErrSyntax", "internal/strconv.uint64pow10", "math/bits.deBruijn32tab", "math/bits.deBruijn64tab"], apart := false, laid := [("math/bits.deBruijn32tab", laid_math_bits_deBruijn32tab), ("math/bits.deBruijn64tab", laid_math_bits_deBruijn64tab), ("internal/strconv.uint64pow10", laid_internal_strconv_uint64pow10), ("unicode/utf8.acceptRanges", laid_unicode_utf8_acceptRanges), ("strconv.ErrRange", laid_strconv_ErrRange), ("strconv.ErrSyntax", laid_strconv_ErrSyntax), ("hopscotch/lex.signs", laid_hopscotch_lex_signs), ("unicode/utf8.first", laid_unicode_utf8_first)] }
def WfKnownSaid : Prop := wfKnownRow.holds Tryz.pinned (OpenSpec.ofChange wfKnownSpec)

/-- ITS FALSE NEIGHBOUR: 'it returns false'. Refute it at one input. -/
def wfKnownWrong : ChangeSpec := { name := "wfKnown", fn := fun _ => fun
  | [] => { results := [.lit (.bool false)], args := [] }
  | _ => none }
def WfKnownWrongFalsely : Prop := wfKnownRow.holds Tryz.pinned (OpenSpec.ofChange wfKnownWrong)

/-- 'hopscotchlaw19.StaticAll': WHATEVER THE INPUT: true; the input reads as it did. -/
def staticAllSpec : ChangeSpec := { name := "staticAll", fn := fun _ => fun
  | [d1, d2] => { results := [.lit (.bool true)], args := [d1, d2] }
  | _ => none }
def staticAllRow : OpenClaim := { program := "ytegjlbpnpiigkaagreatdoor", sum := "152f6faf3a0c61701743a11824e891dac4d490a1e161660fca14fc3a6f48feda", func := "hopscotch/hopscotchlaw19.StaticAll", spec := "staticAll", inPlace := ["internal/bytealg.IndexByteString", "internal/bytealg.IndexString", "internal/reflectlite.TypeOf"], unfollowed := true, recurses := true, named := ["hopscotch/lex.signs", "internal/bytealg.MaxLen", "unicode/utf8.first", "unicode/utf8.acceptRanges", "strconv.ErrRange", "strconv.ErrSyntax", "internal/strconv.uint64pow10", "math/bits.deBruijn32tab", "math/bits.deBruijn64tab"], apart := false, laid := [("math/bits.deBruijn32tab", laid_math_bits_deBruijn32tab), ("math/bits.deBruijn64tab", laid_math_bits_deBruijn64tab), ("internal/strconv.uint64pow10", laid_internal_strconv_uint64pow10), ("unicode/utf8.acceptRanges", laid_unicode_utf8_acceptRanges), ("strconv.ErrRange", laid_strconv_ErrRange), ("strconv.ErrSyntax", laid_strconv_ErrSyntax), ("hopscotch/lex.signs", laid_hopscotch_lex_signs), ("unicode/utf8.first", laid_unicode_utf8_first)] }
def StaticAllSaid : Prop := staticAllRow.holds Tryz.pinned (OpenSpec.ofChange staticAllSpec)

/-- ITS FALSE NEIGHBOUR: 'it returns false'. Refute it at one input. -/
def staticAllWrong : ChangeSpec := { name := "staticAll", fn := fun _ => fun
  | [d1, d2] => { results := [.lit (.bool false)], args := [d1, d2] }
  | _ => none }
def StaticAllWrongFalsely : Prop := staticAllRow.holds Tryz.pinned (OpenSpec.ofChange staticAllWrong)

/-- 'hopscotchlaw19.StaticFollows': WHATEVER THE INPUT: true; the input reads as it did. -/
def staticFollowsSpec : ChangeSpec := { name := "staticFollows", fn := fun _ => fun
  | [d] => { results := [.lit (.bool true)], args := [d] }
  | _ => none }
def staticFollowsRow : OpenClaim := { program := "ytegjlbpnpiigkaagreatdoor", sum := "152f6faf3a0c61701743a11824e891dac4d490a1e161660fca14fc3a6f48feda", func := "hopscotch/hopscotchlaw19.StaticFollows", spec := "staticFollows", inPlace := ["internal/bytealg.IndexByteString", "internal/bytealg.IndexString", "internal/reflectlite.TypeOf"], unfollowed := true, recurses := true, named := ["hopscotch/lex.signs", "internal/bytealg.MaxLen", "unicode/utf8.first", "unicode/utf8.acceptRanges", "strconv.ErrRange", "strconv.ErrSyntax", "internal/strconv.uint64pow10", "math/bits.deBruijn32tab", "math/bits.deBruijn64tab"], apart := false, laid := [("math/bits.deBruijn32tab", laid_math_bits_deBruijn32tab), ("math/bits.deBruijn64tab", laid_math_bits_deBruijn64tab), ("internal/strconv.uint64pow10", laid_internal_strconv_uint64pow10), ("unicode/utf8.acceptRanges", laid_unicode_utf8_acceptRanges), ("strconv.ErrRange", laid_strconv_ErrRange), ("strconv.ErrSyntax", laid_strconv_ErrSyntax), ("hopscotch/lex.signs", laid_hopscotch_lex_signs), ("unicode/utf8.first", laid_unicode_utf8_first)] }
def StaticFollowsSaid : Prop := staticFollowsRow.holds Tryz.pinned (OpenSpec.ofChange staticFollowsSpec)

/-- ITS FALSE NEIGHBOUR: 'it returns false'. Refute it at one input. -/
def staticFollowsWrong : ChangeSpec := { name := "staticFollows", fn := fun _ => fun
  | [d] => { results := [.lit (.bool false)], args := [d] }
  | _ => none }
def StaticFollowsWrongFalsely : Prop := staticFollowsRow.holds Tryz.pinned (OpenSpec.ofChange staticFollowsWrong)

/-- 'hopscotchlaw19.StaticReach': WHATEVER THE INPUT: true; the input reads as it did. -/
def staticReachSpec : ChangeSpec := { name := "staticReach", fn := fun _ => fun
  | [d] => { results := [.lit (.bool true)], args := [d] }
  | _ => none }
def staticReachRow : OpenClaim := { program := "ytegjlbpnpiigkaagreatdoor", sum := "152f6faf3a0c61701743a11824e891dac4d490a1e161660fca14fc3a6f48feda", func := "hopscotch/hopscotchlaw19.StaticReach", spec := "staticReach", inPlace := ["internal/bytealg.IndexByteString", "internal/bytealg.IndexString", "internal/reflectlite.TypeOf"], unfollowed := true, recurses := true, named := ["hopscotch/lex.signs", "internal/bytealg.MaxLen", "unicode/utf8.first", "unicode/utf8.acceptRanges", "strconv.ErrRange", "strconv.ErrSyntax", "internal/strconv.uint64pow10", "math/bits.deBruijn32tab", "math/bits.deBruijn64tab"], apart := false, laid := [("math/bits.deBruijn32tab", laid_math_bits_deBruijn32tab), ("math/bits.deBruijn64tab", laid_math_bits_deBruijn64tab), ("internal/strconv.uint64pow10", laid_internal_strconv_uint64pow10), ("unicode/utf8.acceptRanges", laid_unicode_utf8_acceptRanges), ("strconv.ErrRange", laid_strconv_ErrRange), ("strconv.ErrSyntax", laid_strconv_ErrSyntax), ("hopscotch/lex.signs", laid_hopscotch_lex_signs), ("unicode/utf8.first", laid_unicode_utf8_first)] }
def StaticReachSaid : Prop := staticReachRow.holds Tryz.pinned (OpenSpec.ofChange staticReachSpec)

/-- ITS FALSE NEIGHBOUR: 'it returns false'. Refute it at one input. -/
def staticReachWrong : ChangeSpec := { name := "staticReach", fn := fun _ => fun
  | [d] => { results := [.lit (.bool false)], args := [d] }
  | _ => none }
def StaticReachWrongFalsely : Prop := staticReachRow.holds Tryz.pinned (OpenSpec.ofChange staticReachWrong)

/-- 'hopscotchlaw19.StaticKnown': WHATEVER THE INPUT: true; the input reads as it did. -/
def staticKnownSpec : ChangeSpec := { name := "staticKnown", fn := fun _ => fun
  | [] => { results := [.lit (.bool true)], args := [] }
  | _ => none }
def staticKnownRow : OpenClaim := { program := "ytegjlbpnpiigkaagreatdoor", sum := "152f6faf3a0c61701743a11824e891dac4d490a1e161660fca14fc3a6f48feda", func := "hopscotch/hopscotchlaw19.StaticKnown", spec := "staticKnown", inPlace := ["internal/bytealg.IndexByteString", "internal/bytealg.IndexString", "internal/reflectlite.TypeOf"], unfollowed := true, recurses := true, named := ["hopscotch/lex.signs", "internal/bytealg.MaxLen", "unicode/utf8.first", "unicode/utf8.acceptRanges", "strconv.ErrRange", "strconv.ErrSyntax", "internal/strconv.uint64pow10", "math/bits.deBruijn32tab", "math/bits.deBruijn64tab"], apart := false, laid := [("math/bits.deBruijn32tab", laid_math_bits_deBruijn32tab), ("math/bits.deBruijn64tab", laid_math_bits_deBruijn64tab), ("internal/strconv.uint64pow10", laid_internal_strconv_uint64pow10), ("unicode/utf8.acceptRanges", laid_unicode_utf8_acceptRanges), ("strconv.ErrRange", laid_strconv_ErrRange), ("strconv.ErrSyntax", laid_strconv_ErrSyntax), ("hopscotch/lex.signs", laid_hopscotch_lex_signs), ("unicode/utf8.first", laid_unicode_utf8_first)] }
def StaticKnownSaid : Prop := staticKnownRow.holds Tryz.pinned (OpenSpec.ofChange staticKnownSpec)

/-- ITS FALSE NEIGHBOUR: 'it returns false'. Refute it at one input. -/
def staticKnownWrong : ChangeSpec := { name := "staticKnown", fn := fun _ => fun
  | [] => { results := [.lit (.bool false)], args := [] }
  | _ => none }
def StaticKnownWrongFalsely : Prop := staticKnownRow.holds Tryz.pinned (OpenSpec.ofChange staticKnownWrong)

/- THE SECOND FORM. 'bulk': how many values and letters a reading holds, each counted each time it is reached (what is shared counts as often as it is met; a slice's spare places count too). A statement '..UptoSaid' is the law's where the arguments, and the package variables that the reading takes, are together of bulk at most 1048576: NARROWER than '..Said'. Prove '..Said' where nothing that the law and all that it calls make is longer than what came in: it says more and counts as full. Else prove '..UptoSaid'. A law counts once. -/
mutual
def uptoBulk {H : Type} : DataW H → Nat
  | .lit (.string bytes) => bytes.length + 1
  | .lit _ => 1
  | .nil => 1
  | .ptr d => uptoBulk d + 1
  | .slice elems spare => uptoBulkAll elems + uptoBulkAll spare + 1
  | .agg parts => uptoBulkAll parts + 1
  | .iface _ d => uptoBulk d + 1
  | .map entries => uptoBulkEntries entries + 1
  | .held _ => 1
def uptoBulkAll {H : Type} : List (DataW H) → Nat
  | [] => 0
  | d :: r => uptoBulk d + uptoBulkAll r
def uptoBulkEntries {H : Type} : List (Lit × DataW H) → Nat
  | [] => 0
  | x :: r => uptoBulkEntry x + uptoBulkEntries r
def uptoBulkEntry {H : Type} : Lit × DataW H → Nat
  | (.string bytes, d) => bytes.length + uptoBulk d + 1
  | (_, d) => uptoBulk d + 1
 end
def uptoSmall : (H : Type) → List (DataW H) → Bool := fun _ ds => decide (uptoBulkAll ds ≤ 1048576)
def OpenSpec.upto (s : _root_.Go.ChangeSpec) : _root_.Go.OpenSpec := { _root_.Go.OpenSpec.ofChange s with cond := some uptoSmall }

/-- 'hopscotchlaw17.WfCheck', WHERE WHAT IT READS IS OF BULK AT MOST 1048576: true; the input reads as it did. -/
def wfCheckUptoRow : OpenClaim := { program := "ytegjlbpnpiigkaagreatdoor", sum := "152f6faf3a0c61701743a11824e891dac4d490a1e161660fca14fc3a6f48feda", func := "hopscotch/hopscotchlaw17.WfCheck", spec := "wfCheck", inPlace := ["internal/bytealg.IndexByteString", "internal/bytealg.IndexString", "internal/reflectlite.TypeOf"], unfollowed := true, recurses := true, named := ["hopscotch/lex.signs", "internal/bytealg.MaxLen", "unicode/utf8.first", "unicode/utf8.acceptRanges", "strconv.ErrRange", "strconv.ErrSyntax", "internal/strconv.uint64pow10", "math/bits.deBruijn32tab", "math/bits.deBruijn64tab"], apart := false, laid := [("math/bits.deBruijn32tab", laid_math_bits_deBruijn32tab), ("math/bits.deBruijn64tab", laid_math_bits_deBruijn64tab), ("internal/strconv.uint64pow10", laid_internal_strconv_uint64pow10), ("unicode/utf8.acceptRanges", laid_unicode_utf8_acceptRanges), ("strconv.ErrRange", laid_strconv_ErrRange), ("strconv.ErrSyntax", laid_strconv_ErrSyntax), ("hopscotch/lex.signs", laid_hopscotch_lex_signs), ("unicode/utf8.first", laid_unicode_utf8_first)], narrowed := true }
def WfCheckUptoSaid : Prop := wfCheckUptoRow.holds Tryz.pinned (OpenSpec.upto wfCheckSpec)

/-- 'hopscotchlaw17.WfPlaces', WHERE WHAT IT READS IS OF BULK AT MOST 1048576: true; the input reads as it did. -/
def wfPlacesUptoRow : OpenClaim := { program := "ytegjlbpnpiigkaagreatdoor", sum := "152f6faf3a0c61701743a11824e891dac4d490a1e161660fca14fc3a6f48feda", func := "hopscotch/hopscotchlaw17.WfPlaces", spec := "wfPlaces", inPlace := ["internal/bytealg.IndexByteString", "internal/bytealg.IndexString", "internal/reflectlite.TypeOf"], unfollowed := true, recurses := true, named := ["hopscotch/lex.signs", "internal/bytealg.MaxLen", "unicode/utf8.first", "unicode/utf8.acceptRanges", "strconv.ErrRange", "strconv.ErrSyntax", "internal/strconv.uint64pow10", "math/bits.deBruijn32tab", "math/bits.deBruijn64tab"], apart := false, laid := [("math/bits.deBruijn32tab", laid_math_bits_deBruijn32tab), ("math/bits.deBruijn64tab", laid_math_bits_deBruijn64tab), ("internal/strconv.uint64pow10", laid_internal_strconv_uint64pow10), ("unicode/utf8.acceptRanges", laid_unicode_utf8_acceptRanges), ("strconv.ErrRange", laid_strconv_ErrRange), ("strconv.ErrSyntax", laid_strconv_ErrSyntax), ("hopscotch/lex.signs", laid_hopscotch_lex_signs), ("unicode/utf8.first", laid_unicode_utf8_first)], narrowed := true }
def WfPlacesUptoSaid : Prop := wfPlacesUptoRow.holds Tryz.pinned (OpenSpec.upto wfPlacesSpec)

/-- 'hopscotchlaw17.WfNames', WHERE WHAT IT READS IS OF BULK AT MOST 1048576: true; the input reads as it did. -/
def wfNamesUptoRow : OpenClaim := { program := "ytegjlbpnpiigkaagreatdoor", sum := "152f6faf3a0c61701743a11824e891dac4d490a1e161660fca14fc3a6f48feda", func := "hopscotch/hopscotchlaw17.WfNames", spec := "wfNames", inPlace := ["internal/bytealg.IndexByteString", "internal/bytealg.IndexString", "internal/reflectlite.TypeOf"], unfollowed := true, recurses := true, named := ["hopscotch/lex.signs", "internal/bytealg.MaxLen", "unicode/utf8.first", "unicode/utf8.acceptRanges", "strconv.ErrRange", "strconv.ErrSyntax", "internal/strconv.uint64pow10", "math/bits.deBruijn32tab", "math/bits.deBruijn64tab"], apart := false, laid := [("math/bits.deBruijn32tab", laid_math_bits_deBruijn32tab), ("math/bits.deBruijn64tab", laid_math_bits_deBruijn64tab), ("internal/strconv.uint64pow10", laid_internal_strconv_uint64pow10), ("unicode/utf8.acceptRanges", laid_unicode_utf8_acceptRanges), ("strconv.ErrRange", laid_strconv_ErrRange), ("strconv.ErrSyntax", laid_strconv_ErrSyntax), ("hopscotch/lex.signs", laid_hopscotch_lex_signs), ("unicode/utf8.first", laid_unicode_utf8_first)], narrowed := true }
def WfNamesUptoSaid : Prop := wfNamesUptoRow.holds Tryz.pinned (OpenSpec.upto wfNamesSpec)

/-- 'hopscotchlaw17.WfKnown', WHERE WHAT IT READS IS OF BULK AT MOST 1048576: true; the input reads as it did. -/
def wfKnownUptoRow : OpenClaim := { program := "ytegjlbpnpiigkaagreatdoor", sum := "152f6faf3a0c61701743a11824e891dac4d490a1e161660fca14fc3a6f48feda", func := "hopscotch/hopscotchlaw17.WfKnown", spec := "wfKnown", inPlace := ["internal/bytealg.IndexByteString", "internal/bytealg.IndexString", "internal/reflectlite.TypeOf"], unfollowed := true, recurses := true, named := ["hopscotch/lex.signs", "internal/bytealg.MaxLen", "unicode/utf8.first", "unicode/utf8.acceptRanges", "strconv.ErrRange", "strconv.ErrSyntax", "internal/strconv.uint64pow10", "math/bits.deBruijn32tab", "math/bits.deBruijn64tab"], apart := false, laid := [("math/bits.deBruijn32tab", laid_math_bits_deBruijn32tab), ("math/bits.deBruijn64tab", laid_math_bits_deBruijn64tab), ("internal/strconv.uint64pow10", laid_internal_strconv_uint64pow10), ("unicode/utf8.acceptRanges", laid_unicode_utf8_acceptRanges), ("strconv.ErrRange", laid_strconv_ErrRange), ("strconv.ErrSyntax", laid_strconv_ErrSyntax), ("hopscotch/lex.signs", laid_hopscotch_lex_signs), ("unicode/utf8.first", laid_unicode_utf8_first)], narrowed := true }
def WfKnownUptoSaid : Prop := wfKnownUptoRow.holds Tryz.pinned (OpenSpec.upto wfKnownSpec)

/-- 'hopscotchlaw19.StaticAll', WHERE WHAT IT READS IS OF BULK AT MOST 1048576: true; the input reads as it did. -/
def staticAllUptoRow : OpenClaim := { program := "ytegjlbpnpiigkaagreatdoor", sum := "152f6faf3a0c61701743a11824e891dac4d490a1e161660fca14fc3a6f48feda", func := "hopscotch/hopscotchlaw19.StaticAll", spec := "staticAll", inPlace := ["internal/bytealg.IndexByteString", "internal/bytealg.IndexString", "internal/reflectlite.TypeOf"], unfollowed := true, recurses := true, named := ["hopscotch/lex.signs", "internal/bytealg.MaxLen", "unicode/utf8.first", "unicode/utf8.acceptRanges", "strconv.ErrRange", "strconv.ErrSyntax", "internal/strconv.uint64pow10", "math/bits.deBruijn32tab", "math/bits.deBruijn64tab"], apart := false, laid := [("math/bits.deBruijn32tab", laid_math_bits_deBruijn32tab), ("math/bits.deBruijn64tab", laid_math_bits_deBruijn64tab), ("internal/strconv.uint64pow10", laid_internal_strconv_uint64pow10), ("unicode/utf8.acceptRanges", laid_unicode_utf8_acceptRanges), ("strconv.ErrRange", laid_strconv_ErrRange), ("strconv.ErrSyntax", laid_strconv_ErrSyntax), ("hopscotch/lex.signs", laid_hopscotch_lex_signs), ("unicode/utf8.first", laid_unicode_utf8_first)], narrowed := true }
def StaticAllUptoSaid : Prop := staticAllUptoRow.holds Tryz.pinned (OpenSpec.upto staticAllSpec)

/-- 'hopscotchlaw19.StaticFollows', WHERE WHAT IT READS IS OF BULK AT MOST 1048576: true; the input reads as it did. -/
def staticFollowsUptoRow : OpenClaim := { program := "ytegjlbpnpiigkaagreatdoor", sum := "152f6faf3a0c61701743a11824e891dac4d490a1e161660fca14fc3a6f48feda", func := "hopscotch/hopscotchlaw19.StaticFollows", spec := "staticFollows", inPlace := ["internal/bytealg.IndexByteString", "internal/bytealg.IndexString", "internal/reflectlite.TypeOf"], unfollowed := true, recurses := true, named := ["hopscotch/lex.signs", "internal/bytealg.MaxLen", "unicode/utf8.first", "unicode/utf8.acceptRanges", "strconv.ErrRange", "strconv.ErrSyntax", "internal/strconv.uint64pow10", "math/bits.deBruijn32tab", "math/bits.deBruijn64tab"], apart := false, laid := [("math/bits.deBruijn32tab", laid_math_bits_deBruijn32tab), ("math/bits.deBruijn64tab", laid_math_bits_deBruijn64tab), ("internal/strconv.uint64pow10", laid_internal_strconv_uint64pow10), ("unicode/utf8.acceptRanges", laid_unicode_utf8_acceptRanges), ("strconv.ErrRange", laid_strconv_ErrRange), ("strconv.ErrSyntax", laid_strconv_ErrSyntax), ("hopscotch/lex.signs", laid_hopscotch_lex_signs), ("unicode/utf8.first", laid_unicode_utf8_first)], narrowed := true }
def StaticFollowsUptoSaid : Prop := staticFollowsUptoRow.holds Tryz.pinned (OpenSpec.upto staticFollowsSpec)

/-- 'hopscotchlaw19.StaticReach', WHERE WHAT IT READS IS OF BULK AT MOST 1048576: true; the input reads as it did. -/
def staticReachUptoRow : OpenClaim := { program := "ytegjlbpnpiigkaagreatdoor", sum := "152f6faf3a0c61701743a11824e891dac4d490a1e161660fca14fc3a6f48feda", func := "hopscotch/hopscotchlaw19.StaticReach", spec := "staticReach", inPlace := ["internal/bytealg.IndexByteString", "internal/bytealg.IndexString", "internal/reflectlite.TypeOf"], unfollowed := true, recurses := true, named := ["hopscotch/lex.signs", "internal/bytealg.MaxLen", "unicode/utf8.first", "unicode/utf8.acceptRanges", "strconv.ErrRange", "strconv.ErrSyntax", "internal/strconv.uint64pow10", "math/bits.deBruijn32tab", "math/bits.deBruijn64tab"], apart := false, laid := [("math/bits.deBruijn32tab", laid_math_bits_deBruijn32tab), ("math/bits.deBruijn64tab", laid_math_bits_deBruijn64tab), ("internal/strconv.uint64pow10", laid_internal_strconv_uint64pow10), ("unicode/utf8.acceptRanges", laid_unicode_utf8_acceptRanges), ("strconv.ErrRange", laid_strconv_ErrRange), ("strconv.ErrSyntax", laid_strconv_ErrSyntax), ("hopscotch/lex.signs", laid_hopscotch_lex_signs), ("unicode/utf8.first", laid_unicode_utf8_first)], narrowed := true }
def StaticReachUptoSaid : Prop := staticReachUptoRow.holds Tryz.pinned (OpenSpec.upto staticReachSpec)

/-- 'hopscotchlaw19.StaticKnown', WHERE WHAT IT READS IS OF BULK AT MOST 1048576: true; the input reads as it did. -/
def staticKnownUptoRow : OpenClaim := { program := "ytegjlbpnpiigkaagreatdoor", sum := "152f6faf3a0c61701743a11824e891dac4d490a1e161660fca14fc3a6f48feda", func := "hopscotch/hopscotchlaw19.StaticKnown", spec := "staticKnown", inPlace := ["internal/bytealg.IndexByteString", "internal/bytealg.IndexString", "internal/reflectlite.TypeOf"], unfollowed := true, recurses := true, named := ["hopscotch/lex.signs", "internal/bytealg.MaxLen", "unicode/utf8.first", "unicode/utf8.acceptRanges", "strconv.ErrRange", "strconv.ErrSyntax", "internal/strconv.uint64pow10", "math/bits.deBruijn32tab", "math/bits.deBruijn64tab"], apart := false, laid := [("math/bits.deBruijn32tab", laid_math_bits_deBruijn32tab), ("math/bits.deBruijn64tab", laid_math_bits_deBruijn64tab), ("internal/strconv.uint64pow10", laid_internal_strconv_uint64pow10), ("unicode/utf8.acceptRanges", laid_unicode_utf8_acceptRanges), ("strconv.ErrRange", laid_strconv_ErrRange), ("strconv.ErrSyntax", laid_strconv_ErrSyntax), ("hopscotch/lex.signs", laid_hopscotch_lex_signs), ("unicode/utf8.first", laid_unicode_utf8_first)], narrowed := true }
def StaticKnownUptoSaid : Prop := staticKnownUptoRow.holds Tryz.pinned (OpenSpec.upto staticKnownSpec)

end Rows
end Go.Proofs.YtegjlbpnpiigkaaGreatDoor
