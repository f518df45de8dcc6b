/-
  NARROWER THAN 'FOR EVERY INPUT', by the rows' own cells (each row's printed sentence says how): AttestCuts: laid · AttestBlames: laid · AttestMatchesReference: laid · AttestMakesLikeReference: laid · AttestWeakens: laid · AttestChecked: laid · AttestStays: laid · AttestKeys: laid · AttestBinds: laid · AttestOther: laid.
  DERIVED. THE GIVEN ROWS OF THIS SEAT. 10 by the template 'for every input the law returns true; each argument reads behind the call as it read before'; 0 by the template 'total and deterministic' (their statements: YtmlliafhpbfdbaaDoorTotals.lean).
  GIVEN WITH THE SEED: the statements are not yours to turn. If you find one false, say at which input.
  Laid BY PROGRAM, IN A SANDBOX (cutbox-rows.mjs): the forced cells as the released guide's own fill.sh prints them over the translation c33f66cf6162e6a8… (all of the seat's roots in one cut). By AI agents, Wed Nov 11 2026. No macro, syntax, notation, axiom, sorry.
-/
import Derived.Test.YtmlliafhpbfdbaaDoorChecked
import GoSem.Claim
import GoSem.ClaimJoined
import GoSem.ClaimMapViews
import Derived.JoinedTies
import Derived.KernelRfl
namespace Go.Proofs.YtmlliafhpbfdbaaDoor
/- THE CELL 'sum', in the pinned program and in every row, IS THE sha256 OF THE DUMP (.gsa) THAT YtmlliafhpbfdbaaDoorProg.lean LOADS. Nothing in Lean hashes anything: it is a label: what it is worth is what the hold of that sum in a sandbox is worth. -/
noncomputable def Tryd.pinned : Pinned := { name := "ytmlliafhpbfdbaadoor", sum := "c33f66cf6162e6a847ca6cae0d5405501fa52e1d982b6e95699639348bee3fc4", checked := Tryd.checked }
namespace Rows
def none {H : Type} : Left H := { results := [], args := [] }

/- WHAT THE LISTED PACKAGE-LEVEL VARIABLES READ AS WHEN THE CALL BEGINS. Each datum BY PROGRAM (the guide's laid-datum.mjs) off the statement by which the dump's own 'gosem.cut.vars' lays the variable. In a bare row this is a premise. The card (YtmlliafhpbfdbaaDoorCards.lean) ties it to the program's text. -/
def laid_dialtone_digest_round {H : Type} : DataW H := .agg [.lit (.int .u32 1116352408), .lit (.int .u32 1899447441), .lit (.int .u32 3049323471), .lit (.int .u32 3921009573), .lit (.int .u32 961987163), .lit (.int .u32 1508970993), .lit (.int .u32 2453635748), .lit (.int .u32 2870763221), .lit (.int .u32 3624381080), .lit (.int .u32 310598401), .lit (.int .u32 607225278), .lit (.int .u32 1426881987), .lit (.int .u32 1925078388), .lit (.int .u32 2162078206), .lit (.int .u32 2614888103), .lit (.int .u32 3248222580), .lit (.int .u32 3835390401), .lit (.int .u32 4022224774), .lit (.int .u32 264347078), .lit (.int .u32 604807628), .lit (.int .u32 770255983), .lit (.int .u32 1249150122), .lit (.int .u32 1555081692), .lit (.int .u32 1996064986), .lit (.int .u32 2554220882), .lit (.int .u32 2821834349), .lit (.int .u32 2952996808), .lit (.int .u32 3210313671), .lit (.int .u32 3336571891), .lit (.int .u32 3584528711), .lit (.int .u32 113926993), .lit (.int .u32 338241895), .lit (.int .u32 666307205), .lit (.int .u32 773529912), .lit (.int .u32 1294757372), .lit (.int .u32 1396182291), .lit (.int .u32 1695183700), .lit (.int .u32 1986661051), .lit (.int .u32 2177026350), .lit (.int .u32 2456956037), .lit (.int .u32 2730485921), .lit (.int .u32 2820302411), .lit (.int .u32 3259730800), .lit (.int .u32 3345764771), .lit (.int .u32 3516065817), .lit (.int .u32 3600352804), .lit (.int .u32 4094571909), .lit (.int .u32 275423344), .lit (.int .u32 430227734), .lit (.int .u32 506948616), .lit (.int .u32 659060556), .lit (.int .u32 883997877), .lit (.int .u32 958139571), .lit (.int .u32 1322822218), .lit (.int .u32 1537002063), .lit (.int .u32 1747873779), .lit (.int .u32 1955562222), .lit (.int .u32 2024104815), .lit (.int .u32 2227730452), .lit (.int .u32 2361852424), .lit (.int .u32 2428436474), .lit (.int .u32 2756734187), .lit (.int .u32 3204031479), .lit (.int .u32 3329325298)]

/-- 'dialtonelaw25.AttestCuts': WHATEVER THE INPUT: true; the input reads as it did. -/
def attestCutsSpec : ChangeSpec := { name := "attestCuts", fn := fun _ => fun
  | [d1, d2, d3, d4] => { results := [.lit (.bool true)], args := [d1, d2, d3, d4] }
  | _ => none }
def attestCutsRow : OpenClaim := { program := "ytmlliafhpbfdbaadoor", sum := "c33f66cf6162e6a847ca6cae0d5405501fa52e1d982b6e95699639348bee3fc4", func := "dialtone/dialtonelaw25.AttestCuts", spec := "attestCuts", inPlace := ["internal/abi.NoEscape", "internal/bytealg.MakeNoZero"], unfollowed := true, recurses := true, named := ["dialtone/digest.round"], apart := false, laid := [("dialtone/digest.round", laid_dialtone_digest_round)] }
def AttestCutsSaid : Prop := attestCutsRow.holds Tryd.pinned (OpenSpec.ofChange attestCutsSpec)

/-- ITS FALSE NEIGHBOUR: 'it returns false'. Refute it at one input. -/
def attestCutsWrong : ChangeSpec := { name := "attestCuts", fn := fun _ => fun
  | [d1, d2, d3, d4] => { results := [.lit (.bool false)], args := [d1, d2, d3, d4] }
  | _ => none }
def AttestCutsWrongFalsely : Prop := attestCutsRow.holds Tryd.pinned (OpenSpec.ofChange attestCutsWrong)

/-- 'dialtonelaw25.AttestBlames': WHATEVER THE INPUT: true; the input reads as it did. -/
def attestBlamesSpec : ChangeSpec := { name := "attestBlames", fn := fun _ => fun
  | [d1, d2, d3, d4] => { results := [.lit (.bool true)], args := [d1, d2, d3, d4] }
  | _ => none }
def attestBlamesRow : OpenClaim := { program := "ytmlliafhpbfdbaadoor", sum := "c33f66cf6162e6a847ca6cae0d5405501fa52e1d982b6e95699639348bee3fc4", func := "dialtone/dialtonelaw25.AttestBlames", spec := "attestBlames", inPlace := ["internal/abi.NoEscape", "internal/bytealg.MakeNoZero"], unfollowed := true, recurses := true, named := ["dialtone/digest.round"], apart := false, laid := [("dialtone/digest.round", laid_dialtone_digest_round)] }
def AttestBlamesSaid : Prop := attestBlamesRow.holds Tryd.pinned (OpenSpec.ofChange attestBlamesSpec)

/-- ITS FALSE NEIGHBOUR: 'it returns false'. Refute it at one input. -/
def attestBlamesWrong : ChangeSpec := { name := "attestBlames", fn := fun _ => fun
  | [d1, d2, d3, d4] => { results := [.lit (.bool false)], args := [d1, d2, d3, d4] }
  | _ => none }
def AttestBlamesWrongFalsely : Prop := attestBlamesRow.holds Tryd.pinned (OpenSpec.ofChange attestBlamesWrong)

/-- 'dialtonelaw25.AttestMatchesReference': WHATEVER THE INPUT: true; the input reads as it did. -/
def attestMatchesReferenceSpec : ChangeSpec := { name := "attestMatchesReference", fn := fun _ => fun
  | [d1, d2, d3, d4, d5, d6, d7] => { results := [.lit (.bool true)], args := [d1, d2, d3, d4, d5, d6, d7] }
  | _ => none }
def attestMatchesReferenceRow : OpenClaim := { program := "ytmlliafhpbfdbaadoor", sum := "c33f66cf6162e6a847ca6cae0d5405501fa52e1d982b6e95699639348bee3fc4", func := "dialtone/dialtonelaw25.AttestMatchesReference", spec := "attestMatchesReference", inPlace := ["internal/abi.NoEscape", "internal/bytealg.MakeNoZero"], unfollowed := true, recurses := true, named := ["dialtone/digest.round"], apart := false, laid := [("dialtone/digest.round", laid_dialtone_digest_round)] }
def AttestMatchesReferenceSaid : Prop := attestMatchesReferenceRow.holds Tryd.pinned (OpenSpec.ofChange attestMatchesReferenceSpec)

/-- ITS FALSE NEIGHBOUR: 'it returns false'. Refute it at one input. -/
def attestMatchesReferenceWrong : ChangeSpec := { name := "attestMatchesReference", fn := fun _ => fun
  | [d1, d2, d3, d4, d5, d6, d7] => { results := [.lit (.bool false)], args := [d1, d2, d3, d4, d5, d6, d7] }
  | _ => none }
def AttestMatchesReferenceWrongFalsely : Prop := attestMatchesReferenceRow.holds Tryd.pinned (OpenSpec.ofChange attestMatchesReferenceWrong)

/-- 'dialtonelaw25.AttestMakesLikeReference': WHATEVER THE INPUT: true; the input reads as it did. -/
def attestMakesLikeReferenceSpec : ChangeSpec := { name := "attestMakesLikeReference", fn := fun _ => fun
  | [d1, d2, d3, d4, d5, d6, d7] => { results := [.lit (.bool true)], args := [d1, d2, d3, d4, d5, d6, d7] }
  | _ => none }
def attestMakesLikeReferenceRow : OpenClaim := { program := "ytmlliafhpbfdbaadoor", sum := "c33f66cf6162e6a847ca6cae0d5405501fa52e1d982b6e95699639348bee3fc4", func := "dialtone/dialtonelaw25.AttestMakesLikeReference", spec := "attestMakesLikeReference", inPlace := ["internal/abi.NoEscape", "internal/bytealg.MakeNoZero"], unfollowed := true, recurses := true, named := ["dialtone/digest.round"], apart := false, laid := [("dialtone/digest.round", laid_dialtone_digest_round)] }
def AttestMakesLikeReferenceSaid : Prop := attestMakesLikeReferenceRow.holds Tryd.pinned (OpenSpec.ofChange attestMakesLikeReferenceSpec)

/-- ITS FALSE NEIGHBOUR: 'it returns false'. Refute it at one input. -/
def attestMakesLikeReferenceWrong : ChangeSpec := { name := "attestMakesLikeReference", fn := fun _ => fun
  | [d1, d2, d3, d4, d5, d6, d7] => { results := [.lit (.bool false)], args := [d1, d2, d3, d4, d5, d6, d7] }
  | _ => none }
def AttestMakesLikeReferenceWrongFalsely : Prop := attestMakesLikeReferenceRow.holds Tryd.pinned (OpenSpec.ofChange attestMakesLikeReferenceWrong)

/-- 'dialtonelaw25.AttestWeakens': WHATEVER THE INPUT: true; the input reads as it did. -/
def attestWeakensSpec : ChangeSpec := { name := "attestWeakens", fn := fun _ => fun
  | [d] => { results := [.lit (.bool true)], args := [d] }
  | _ => none }
def attestWeakensRow : OpenClaim := { program := "ytmlliafhpbfdbaadoor", sum := "c33f66cf6162e6a847ca6cae0d5405501fa52e1d982b6e95699639348bee3fc4", func := "dialtone/dialtonelaw25.AttestWeakens", spec := "attestWeakens", inPlace := ["internal/abi.NoEscape", "internal/bytealg.MakeNoZero"], unfollowed := true, recurses := true, named := ["dialtone/digest.round"], apart := false, laid := [("dialtone/digest.round", laid_dialtone_digest_round)] }
def AttestWeakensSaid : Prop := attestWeakensRow.holds Tryd.pinned (OpenSpec.ofChange attestWeakensSpec)

/-- ITS FALSE NEIGHBOUR: 'it returns false'. Refute it at one input. -/
def attestWeakensWrong : ChangeSpec := { name := "attestWeakens", fn := fun _ => fun
  | [d] => { results := [.lit (.bool false)], args := [d] }
  | _ => none }
def AttestWeakensWrongFalsely : Prop := attestWeakensRow.holds Tryd.pinned (OpenSpec.ofChange attestWeakensWrong)

/-- 'dialtonelaw25.AttestChecked': WHATEVER THE INPUT: true; the input reads as it did. -/
def attestCheckedSpec : ChangeSpec := { name := "attestChecked", fn := fun _ => fun
  | [d1, d2, d3] => { results := [.lit (.bool true)], args := [d1, d2, d3] }
  | _ => none }
def attestCheckedRow : OpenClaim := { program := "ytmlliafhpbfdbaadoor", sum := "c33f66cf6162e6a847ca6cae0d5405501fa52e1d982b6e95699639348bee3fc4", func := "dialtone/dialtonelaw25.AttestChecked", spec := "attestChecked", inPlace := ["internal/abi.NoEscape", "internal/bytealg.MakeNoZero"], unfollowed := true, recurses := true, named := ["dialtone/digest.round"], apart := false, laid := [("dialtone/digest.round", laid_dialtone_digest_round)] }
def AttestCheckedSaid : Prop := attestCheckedRow.holds Tryd.pinned (OpenSpec.ofChange attestCheckedSpec)

/-- ITS FALSE NEIGHBOUR: 'it returns false'. Refute it at one input. -/
def attestCheckedWrong : ChangeSpec := { name := "attestChecked", fn := fun _ => fun
  | [d1, d2, d3] => { results := [.lit (.bool false)], args := [d1, d2, d3] }
  | _ => none }
def AttestCheckedWrongFalsely : Prop := attestCheckedRow.holds Tryd.pinned (OpenSpec.ofChange attestCheckedWrong)

/-- 'dialtonelaw25.AttestStays': WHATEVER THE INPUT: true; the input reads as it did. -/
def attestStaysSpec : ChangeSpec := { name := "attestStays", fn := fun _ => fun
  | [d1, d2, d3] => { results := [.lit (.bool true)], args := [d1, d2, d3] }
  | _ => none }
def attestStaysRow : OpenClaim := { program := "ytmlliafhpbfdbaadoor", sum := "c33f66cf6162e6a847ca6cae0d5405501fa52e1d982b6e95699639348bee3fc4", func := "dialtone/dialtonelaw25.AttestStays", spec := "attestStays", inPlace := ["internal/abi.NoEscape", "internal/bytealg.MakeNoZero"], unfollowed := true, recurses := true, named := ["dialtone/digest.round"], apart := false, laid := [("dialtone/digest.round", laid_dialtone_digest_round)] }
def AttestStaysSaid : Prop := attestStaysRow.holds Tryd.pinned (OpenSpec.ofChange attestStaysSpec)

/-- ITS FALSE NEIGHBOUR: 'it returns false'. Refute it at one input. -/
def attestStaysWrong : ChangeSpec := { name := "attestStays", fn := fun _ => fun
  | [d1, d2, d3] => { results := [.lit (.bool false)], args := [d1, d2, d3] }
  | _ => none }
def AttestStaysWrongFalsely : Prop := attestStaysRow.holds Tryd.pinned (OpenSpec.ofChange attestStaysWrong)

/-- 'dialtonelaw25.AttestKeys': WHATEVER THE INPUT: true; the input reads as it did. -/
def attestKeysSpec : ChangeSpec := { name := "attestKeys", fn := fun _ => fun
  | [d1, d2, d3, d4] => { results := [.lit (.bool true)], args := [d1, d2, d3, d4] }
  | _ => none }
def attestKeysRow : OpenClaim := { program := "ytmlliafhpbfdbaadoor", sum := "c33f66cf6162e6a847ca6cae0d5405501fa52e1d982b6e95699639348bee3fc4", func := "dialtone/dialtonelaw25.AttestKeys", spec := "attestKeys", inPlace := ["internal/abi.NoEscape", "internal/bytealg.MakeNoZero"], unfollowed := true, recurses := true, named := ["dialtone/digest.round"], apart := false, laid := [("dialtone/digest.round", laid_dialtone_digest_round)] }
def AttestKeysSaid : Prop := attestKeysRow.holds Tryd.pinned (OpenSpec.ofChange attestKeysSpec)

/-- ITS FALSE NEIGHBOUR: 'it returns false'. Refute it at one input. -/
def attestKeysWrong : ChangeSpec := { name := "attestKeys", fn := fun _ => fun
  | [d1, d2, d3, d4] => { results := [.lit (.bool false)], args := [d1, d2, d3, d4] }
  | _ => none }
def AttestKeysWrongFalsely : Prop := attestKeysRow.holds Tryd.pinned (OpenSpec.ofChange attestKeysWrong)

/-- 'dialtonelaw25.AttestBinds': WHATEVER THE INPUT: true; the input reads as it did. -/
def attestBindsSpec : ChangeSpec := { name := "attestBinds", fn := fun _ => fun
  | [d1, d2, d3, d4, d5] => { results := [.lit (.bool true)], args := [d1, d2, d3, d4, d5] }
  | _ => none }
def attestBindsRow : OpenClaim := { program := "ytmlliafhpbfdbaadoor", sum := "c33f66cf6162e6a847ca6cae0d5405501fa52e1d982b6e95699639348bee3fc4", func := "dialtone/dialtonelaw25.AttestBinds", spec := "attestBinds", inPlace := ["internal/abi.NoEscape", "internal/bytealg.MakeNoZero"], unfollowed := true, recurses := true, named := ["dialtone/digest.round"], apart := false, laid := [("dialtone/digest.round", laid_dialtone_digest_round)] }
def AttestBindsSaid : Prop := attestBindsRow.holds Tryd.pinned (OpenSpec.ofChange attestBindsSpec)

/-- ITS FALSE NEIGHBOUR: 'it returns false'. Refute it at one input. -/
def attestBindsWrong : ChangeSpec := { name := "attestBinds", fn := fun _ => fun
  | [d1, d2, d3, d4, d5] => { results := [.lit (.bool false)], args := [d1, d2, d3, d4, d5] }
  | _ => none }
def AttestBindsWrongFalsely : Prop := attestBindsRow.holds Tryd.pinned (OpenSpec.ofChange attestBindsWrong)

/-- 'dialtonelaw25.AttestOther': WHATEVER THE INPUT: true; the input reads as it did. -/
def attestOtherSpec : ChangeSpec := { name := "attestOther", fn := fun _ => fun
  | [d1, d2] => { results := [.lit (.bool true)], args := [d1, d2] }
  | _ => none }
def attestOtherRow : OpenClaim := { program := "ytmlliafhpbfdbaadoor", sum := "c33f66cf6162e6a847ca6cae0d5405501fa52e1d982b6e95699639348bee3fc4", func := "dialtone/dialtonelaw25.AttestOther", spec := "attestOther", inPlace := ["internal/abi.NoEscape", "internal/bytealg.MakeNoZero"], unfollowed := true, recurses := true, named := ["dialtone/digest.round"], apart := false, laid := [("dialtone/digest.round", laid_dialtone_digest_round)] }
def AttestOtherSaid : Prop := attestOtherRow.holds Tryd.pinned (OpenSpec.ofChange attestOtherSpec)

/-- ITS FALSE NEIGHBOUR: 'it returns false'. Refute it at one input. -/
def attestOtherWrong : ChangeSpec := { name := "attestOther", fn := fun _ => fun
  | [d1, d2] => { results := [.lit (.bool false)], args := [d1, d2] }
  | _ => none }
def AttestOtherWrongFalsely : Prop := attestOtherRow.holds Tryd.pinned (OpenSpec.ofChange attestOtherWrong)

/- THE SECOND FORM. 'bulk': how many values and letters a reading holds, each counted each time it is reached (what is shared counts as often as it is met; a slice's spare places count too). A statement '..UptoSaid' is the law's where the arguments, and the package variables that the reading takes, are together of bulk at most 1048576: NARROWER than '..Said'. Prove '..Said' where nothing that the law and all that it calls make is longer than what came in: it says more and counts as full. Else prove '..UptoSaid'. A law counts once. -/
mutual
def uptoBulk {H : Type} : DataW H → Nat
  | .lit (.string bytes) => bytes.length + 1
  | .lit _ => 1
  | .nil => 1
  | .ptr d => uptoBulk d + 1
  | .slice elems spare => uptoBulkAll elems + uptoBulkAll spare + 1
  | .agg parts => uptoBulkAll parts + 1
  | .iface _ d => uptoBulk d + 1
  | .map entries => uptoBulkEntries entries + 1
  | .held _ => 1
def uptoBulkAll {H : Type} : List (DataW H) → Nat
  | [] => 0
  | d :: r => uptoBulk d + uptoBulkAll r
def uptoBulkEntries {H : Type} : List (Lit × DataW H) → Nat
  | [] => 0
  | x :: r => uptoBulkEntry x + uptoBulkEntries r
def uptoBulkEntry {H : Type} : Lit × DataW H → Nat
  | (.string bytes, d) => bytes.length + uptoBulk d + 1
  | (_, d) => uptoBulk d + 1
 end
def uptoSmall : (H : Type) → List (DataW H) → Bool := fun _ ds => decide (uptoBulkAll ds ≤ 1048576)
def OpenSpec.upto (s : _root_.Go.ChangeSpec) : _root_.Go.OpenSpec := { _root_.Go.OpenSpec.ofChange s with cond := some uptoSmall }

/-- 'dialtonelaw25.AttestCuts', WHERE WHAT IT READS IS OF BULK AT MOST 1048576: true; the input reads as it did. -/
def attestCutsUptoRow : OpenClaim := { program := "ytmlliafhpbfdbaadoor", sum := "c33f66cf6162e6a847ca6cae0d5405501fa52e1d982b6e95699639348bee3fc4", func := "dialtone/dialtonelaw25.AttestCuts", spec := "attestCuts", inPlace := ["internal/abi.NoEscape", "internal/bytealg.MakeNoZero"], unfollowed := true, recurses := true, named := ["dialtone/digest.round"], apart := false, laid := [("dialtone/digest.round", laid_dialtone_digest_round)], narrowed := true }
def AttestCutsUptoSaid : Prop := attestCutsUptoRow.holds Tryd.pinned (OpenSpec.upto attestCutsSpec)

/-- 'dialtonelaw25.AttestBlames', WHERE WHAT IT READS IS OF BULK AT MOST 1048576: true; the input reads as it did. -/
def attestBlamesUptoRow : OpenClaim := { program := "ytmlliafhpbfdbaadoor", sum := "c33f66cf6162e6a847ca6cae0d5405501fa52e1d982b6e95699639348bee3fc4", func := "dialtone/dialtonelaw25.AttestBlames", spec := "attestBlames", inPlace := ["internal/abi.NoEscape", "internal/bytealg.MakeNoZero"], unfollowed := true, recurses := true, named := ["dialtone/digest.round"], apart := false, laid := [("dialtone/digest.round", laid_dialtone_digest_round)], narrowed := true }
def AttestBlamesUptoSaid : Prop := attestBlamesUptoRow.holds Tryd.pinned (OpenSpec.upto attestBlamesSpec)

/-- 'dialtonelaw25.AttestMatchesReference', WHERE WHAT IT READS IS OF BULK AT MOST 1048576: true; the input reads as it did. -/
def attestMatchesReferenceUptoRow : OpenClaim := { program := "ytmlliafhpbfdbaadoor", sum := "c33f66cf6162e6a847ca6cae0d5405501fa52e1d982b6e95699639348bee3fc4", func := "dialtone/dialtonelaw25.AttestMatchesReference", spec := "attestMatchesReference", inPlace := ["internal/abi.NoEscape", "internal/bytealg.MakeNoZero"], unfollowed := true, recurses := true, named := ["dialtone/digest.round"], apart := false, laid := [("dialtone/digest.round", laid_dialtone_digest_round)], narrowed := true }
def AttestMatchesReferenceUptoSaid : Prop := attestMatchesReferenceUptoRow.holds Tryd.pinned (OpenSpec.upto attestMatchesReferenceSpec)

/-- 'dialtonelaw25.AttestMakesLikeReference', WHERE WHAT IT READS IS OF BULK AT MOST 1048576: true; the input reads as it did. -/
def attestMakesLikeReferenceUptoRow : OpenClaim := { program := "ytmlliafhpbfdbaadoor", sum := "c33f66cf6162e6a847ca6cae0d5405501fa52e1d982b6e95699639348bee3fc4", func := "dialtone/dialtonelaw25.AttestMakesLikeReference", spec := "attestMakesLikeReference", inPlace := ["internal/abi.NoEscape", "internal/bytealg.MakeNoZero"], unfollowed := true, recurses := true, named := ["dialtone/digest.round"], apart := false, laid := [("dialtone/digest.round", laid_dialtone_digest_round)], narrowed := true }
def AttestMakesLikeReferenceUptoSaid : Prop := attestMakesLikeReferenceUptoRow.holds Tryd.pinned (OpenSpec.upto attestMakesLikeReferenceSpec)

/-- 'dialtonelaw25.AttestWeakens', WHERE WHAT IT READS IS OF BULK AT MOST 1048576: true; the input reads as it did. -/
def attestWeakensUptoRow : OpenClaim := { program := "ytmlliafhpbfdbaadoor", sum := "c33f66cf6162e6a847ca6cae0d5405501fa52e1d982b6e95699639348bee3fc4", func := "dialtone/dialtonelaw25.AttestWeakens", spec := "attestWeakens", inPlace := ["internal/abi.NoEscape", "internal/bytealg.MakeNoZero"], unfollowed := true, recurses := true, named := ["dialtone/digest.round"], apart := false, laid := [("dialtone/digest.round", laid_dialtone_digest_round)], narrowed := true }
def AttestWeakensUptoSaid : Prop := attestWeakensUptoRow.holds Tryd.pinned (OpenSpec.upto attestWeakensSpec)

/-- 'dialtonelaw25.AttestChecked', WHERE WHAT IT READS IS OF BULK AT MOST 1048576: true; the input reads as it did. -/
def attestCheckedUptoRow : OpenClaim := { program := "ytmlliafhpbfdbaadoor", sum := "c33f66cf6162e6a847ca6cae0d5405501fa52e1d982b6e95699639348bee3fc4", func := "dialtone/dialtonelaw25.AttestChecked", spec := "attestChecked", inPlace := ["internal/abi.NoEscape", "internal/bytealg.MakeNoZero"], unfollowed := true, recurses := true, named := ["dialtone/digest.round"], apart := false, laid := [("dialtone/digest.round", laid_dialtone_digest_round)], narrowed := true }
def AttestCheckedUptoSaid : Prop := attestCheckedUptoRow.holds Tryd.pinned (OpenSpec.upto attestCheckedSpec)

/-- 'dialtonelaw25.AttestStays', WHERE WHAT IT READS IS OF BULK AT MOST 1048576: true; the input reads as it did. -/
def attestStaysUptoRow : OpenClaim := { program := "ytmlliafhpbfdbaadoor", sum := "c33f66cf6162e6a847ca6cae0d5405501fa52e1d982b6e95699639348bee3fc4", func := "dialtone/dialtonelaw25.AttestStays", spec := "attestStays", inPlace := ["internal/abi.NoEscape", "internal/bytealg.MakeNoZero"], unfollowed := true, recurses := true, named := ["dialtone/digest.round"], apart := false, laid := [("dialtone/digest.round", laid_dialtone_digest_round)], narrowed := true }
def AttestStaysUptoSaid : Prop := attestStaysUptoRow.holds Tryd.pinned (OpenSpec.upto attestStaysSpec)

/-- 'dialtonelaw25.AttestKeys', WHERE WHAT IT READS IS OF BULK AT MOST 1048576: true; the input reads as it did. -/
def attestKeysUptoRow : OpenClaim := { program := "ytmlliafhpbfdbaadoor", sum := "c33f66cf6162e6a847ca6cae0d5405501fa52e1d982b6e95699639348bee3fc4", func := "dialtone/dialtonelaw25.AttestKeys", spec := "attestKeys", inPlace := ["internal/abi.NoEscape", "internal/bytealg.MakeNoZero"], unfollowed := true, recurses := true, named := ["dialtone/digest.round"], apart := false, laid := [("dialtone/digest.round", laid_dialtone_digest_round)], narrowed := true }
def AttestKeysUptoSaid : Prop := attestKeysUptoRow.holds Tryd.pinned (OpenSpec.upto attestKeysSpec)

/-- 'dialtonelaw25.AttestBinds', WHERE WHAT IT READS IS OF BULK AT MOST 1048576: true; the input reads as it did. -/
def attestBindsUptoRow : OpenClaim := { program := "ytmlliafhpbfdbaadoor", sum := "c33f66cf6162e6a847ca6cae0d5405501fa52e1d982b6e95699639348bee3fc4", func := "dialtone/dialtonelaw25.AttestBinds", spec := "attestBinds", inPlace := ["internal/abi.NoEscape", "internal/bytealg.MakeNoZero"], unfollowed := true, recurses := true, named := ["dialtone/digest.round"], apart := false, laid := [("dialtone/digest.round", laid_dialtone_digest_round)], narrowed := true }
def AttestBindsUptoSaid : Prop := attestBindsUptoRow.holds Tryd.pinned (OpenSpec.upto attestBindsSpec)

/-- 'dialtonelaw25.AttestOther', WHERE WHAT IT READS IS OF BULK AT MOST 1048576: true; the input reads as it did. -/
def attestOtherUptoRow : OpenClaim := { program := "ytmlliafhpbfdbaadoor", sum := "c33f66cf6162e6a847ca6cae0d5405501fa52e1d982b6e95699639348bee3fc4", func := "dialtone/dialtonelaw25.AttestOther", spec := "attestOther", inPlace := ["internal/abi.NoEscape", "internal/bytealg.MakeNoZero"], unfollowed := true, recurses := true, named := ["dialtone/digest.round"], apart := false, laid := [("dialtone/digest.round", laid_dialtone_digest_round)], narrowed := true }
def AttestOtherUptoSaid : Prop := attestOtherUptoRow.holds Tryd.pinned (OpenSpec.upto attestOtherSpec)

end Rows
end Go.Proofs.YtmlliafhpbfdbaaDoor
