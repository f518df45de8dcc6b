/-
  NARROWER THAN 'FOR EVERY INPUT', by the rows' own cells (each row's printed sentence says how): LinkMatchesReference: laid · LinkOnce: laid · LinkAll: laid · LinkAcknowledged: laid · LinkForged: laid · LinkDoubled: laid · LinkOut: laid · LinkOrder: laid · LinkAgain: laid · LinkNil: laid.
  DERIVED. THE GIVEN ROWS OF THIS SEAT. 10 by the template 'for every input the law returns true; each argument reads behind the call as it read before'; 0 by the template 'total and deterministic' (their statements: YtkjhhifhgcihpaaDoorTotals.lean).
  GIVEN WITH THE SEED: the statements are not yours to turn. If you find one false, say at which input.
  Laid BY PROGRAM, IN A SANDBOX (cutbox-rows.mjs): the forced cells as the released guide's own fill.sh prints them over the translation 57a67e0cbf7233fc… (all of the seat's roots in one cut). By AI agents, Wed Nov 11 2026. No macro, syntax, notation, axiom, sorry.
-/
import Derived.Test.YtkjhhifhgcihpaaDoorChecked
import GoSem.Claim
import GoSem.ClaimJoined
import GoSem.ClaimMapViews
import Derived.JoinedTies
import Derived.KernelRfl
namespace Go.Proofs.YtkjhhifhgcihpaaDoor
/- THE CELL 'sum', in the pinned program and in every row, IS THE sha256 OF THE DUMP (.gsa) THAT YtkjhhifhgcihpaaDoorProg.lean LOADS. Nothing in Lean hashes anything: it is a label: what it is worth is what the hold of that sum in a sandbox is worth. -/
noncomputable def Tryd.pinned : Pinned := { name := "ytkjhhifhgcihpaadoor", sum := "57a67e0cbf7233fc32481920c3fc9b8bc92cafd279f164ea093060787a9c37de", checked := Tryd.checked }
namespace Rows
def none {H : Type} : Left H := { results := [], args := [] }

/- WHAT THE LISTED PACKAGE-LEVEL VARIABLES READ AS WHEN THE CALL BEGINS. Each datum BY PROGRAM (the guide's laid-datum.mjs) off the statement by which the dump's own 'gosem.cut.vars' lays the variable. In a bare row this is a premise. The card (YtkjhhifhgcihpaaDoorCards.lean) ties it to the program's text. -/
def laid_dialtone_digest_round {H : Type} : DataW H := .agg [.lit (.int .u32 1116352408), .lit (.int .u32 1899447441), .lit (.int .u32 3049323471), .lit (.int .u32 3921009573), .lit (.int .u32 961987163), .lit (.int .u32 1508970993), .lit (.int .u32 2453635748), .lit (.int .u32 2870763221), .lit (.int .u32 3624381080), .lit (.int .u32 310598401), .lit (.int .u32 607225278), .lit (.int .u32 1426881987), .lit (.int .u32 1925078388), .lit (.int .u32 2162078206), .lit (.int .u32 2614888103), .lit (.int .u32 3248222580), .lit (.int .u32 3835390401), .lit (.int .u32 4022224774), .lit (.int .u32 264347078), .lit (.int .u32 604807628), .lit (.int .u32 770255983), .lit (.int .u32 1249150122), .lit (.int .u32 1555081692), .lit (.int .u32 1996064986), .lit (.int .u32 2554220882), .lit (.int .u32 2821834349), .lit (.int .u32 2952996808), .lit (.int .u32 3210313671), .lit (.int .u32 3336571891), .lit (.int .u32 3584528711), .lit (.int .u32 113926993), .lit (.int .u32 338241895), .lit (.int .u32 666307205), .lit (.int .u32 773529912), .lit (.int .u32 1294757372), .lit (.int .u32 1396182291), .lit (.int .u32 1695183700), .lit (.int .u32 1986661051), .lit (.int .u32 2177026350), .lit (.int .u32 2456956037), .lit (.int .u32 2730485921), .lit (.int .u32 2820302411), .lit (.int .u32 3259730800), .lit (.int .u32 3345764771), .lit (.int .u32 3516065817), .lit (.int .u32 3600352804), .lit (.int .u32 4094571909), .lit (.int .u32 275423344), .lit (.int .u32 430227734), .lit (.int .u32 506948616), .lit (.int .u32 659060556), .lit (.int .u32 883997877), .lit (.int .u32 958139571), .lit (.int .u32 1322822218), .lit (.int .u32 1537002063), .lit (.int .u32 1747873779), .lit (.int .u32 1955562222), .lit (.int .u32 2024104815), .lit (.int .u32 2227730452), .lit (.int .u32 2361852424), .lit (.int .u32 2428436474), .lit (.int .u32 2756734187), .lit (.int .u32 3204031479), .lit (.int .u32 3329325298)]

/-- 'dialtonelaw41.LinkMatchesReference': WHATEVER THE INPUT: true; the input reads as it did. -/
def linkMatchesReferenceSpec : ChangeSpec := { name := "linkMatchesReference", fn := fun _ => fun
  | [d1, d2, d3] => { results := [.lit (.bool true)], args := [d1, d2, d3] }
  | _ => none }
def linkMatchesReferenceRow : OpenClaim := { program := "ytkjhhifhgcihpaadoor", sum := "57a67e0cbf7233fc32481920c3fc9b8bc92cafd279f164ea093060787a9c37de", func := "dialtone/dialtonelaw41.LinkMatchesReference", spec := "linkMatchesReference", inPlace := ["internal/abi.NoEscape", "internal/bytealg.MakeNoZero"], unfollowed := true, recurses := true, named := ["dialtone/digest.round"], apart := false, laid := [("dialtone/digest.round", laid_dialtone_digest_round)] }
def LinkMatchesReferenceSaid : Prop := linkMatchesReferenceRow.holds Tryd.pinned (OpenSpec.ofChange linkMatchesReferenceSpec)

/-- ITS FALSE NEIGHBOUR: 'it returns false'. Refute it at one input. -/
def linkMatchesReferenceWrong : ChangeSpec := { name := "linkMatchesReference", fn := fun _ => fun
  | [d1, d2, d3] => { results := [.lit (.bool false)], args := [d1, d2, d3] }
  | _ => none }
def LinkMatchesReferenceWrongFalsely : Prop := linkMatchesReferenceRow.holds Tryd.pinned (OpenSpec.ofChange linkMatchesReferenceWrong)

/-- 'dialtonelaw41.LinkOnce': WHATEVER THE INPUT: true; the input reads as it did. -/
def linkOnceSpec : ChangeSpec := { name := "linkOnce", fn := fun _ => fun
  | [d] => { results := [.lit (.bool true)], args := [d] }
  | _ => none }
def linkOnceRow : OpenClaim := { program := "ytkjhhifhgcihpaadoor", sum := "57a67e0cbf7233fc32481920c3fc9b8bc92cafd279f164ea093060787a9c37de", func := "dialtone/dialtonelaw41.LinkOnce", spec := "linkOnce", inPlace := ["internal/abi.NoEscape", "internal/bytealg.MakeNoZero"], unfollowed := true, recurses := true, named := ["dialtone/digest.round"], apart := false, laid := [("dialtone/digest.round", laid_dialtone_digest_round)] }
def LinkOnceSaid : Prop := linkOnceRow.holds Tryd.pinned (OpenSpec.ofChange linkOnceSpec)

/-- ITS FALSE NEIGHBOUR: 'it returns false'. Refute it at one input. -/
def linkOnceWrong : ChangeSpec := { name := "linkOnce", fn := fun _ => fun
  | [d] => { results := [.lit (.bool false)], args := [d] }
  | _ => none }
def LinkOnceWrongFalsely : Prop := linkOnceRow.holds Tryd.pinned (OpenSpec.ofChange linkOnceWrong)

/-- 'dialtonelaw41.LinkAll': WHATEVER THE INPUT: true; the input reads as it did. -/
def linkAllSpec : ChangeSpec := { name := "linkAll", fn := fun _ => fun
  | [d1, d2, d3, d4] => { results := [.lit (.bool true)], args := [d1, d2, d3, d4] }
  | _ => none }
def linkAllRow : OpenClaim := { program := "ytkjhhifhgcihpaadoor", sum := "57a67e0cbf7233fc32481920c3fc9b8bc92cafd279f164ea093060787a9c37de", func := "dialtone/dialtonelaw41.LinkAll", spec := "linkAll", inPlace := ["internal/abi.NoEscape", "internal/bytealg.MakeNoZero"], unfollowed := true, recurses := true, named := ["dialtone/digest.round"], apart := false, laid := [("dialtone/digest.round", laid_dialtone_digest_round)] }
def LinkAllSaid : Prop := linkAllRow.holds Tryd.pinned (OpenSpec.ofChange linkAllSpec)

/-- ITS FALSE NEIGHBOUR: 'it returns false'. Refute it at one input. -/
def linkAllWrong : ChangeSpec := { name := "linkAll", fn := fun _ => fun
  | [d1, d2, d3, d4] => { results := [.lit (.bool false)], args := [d1, d2, d3, d4] }
  | _ => none }
def LinkAllWrongFalsely : Prop := linkAllRow.holds Tryd.pinned (OpenSpec.ofChange linkAllWrong)

/-- 'dialtonelaw41.LinkAcknowledged': WHATEVER THE INPUT: true; the input reads as it did. -/
def linkAcknowledgedSpec : ChangeSpec := { name := "linkAcknowledged", fn := fun _ => fun
  | [d] => { results := [.lit (.bool true)], args := [d] }
  | _ => none }
def linkAcknowledgedRow : OpenClaim := { program := "ytkjhhifhgcihpaadoor", sum := "57a67e0cbf7233fc32481920c3fc9b8bc92cafd279f164ea093060787a9c37de", func := "dialtone/dialtonelaw41.LinkAcknowledged", spec := "linkAcknowledged", inPlace := ["internal/abi.NoEscape", "internal/bytealg.MakeNoZero"], unfollowed := true, recurses := true, named := ["dialtone/digest.round"], apart := false, laid := [("dialtone/digest.round", laid_dialtone_digest_round)] }
def LinkAcknowledgedSaid : Prop := linkAcknowledgedRow.holds Tryd.pinned (OpenSpec.ofChange linkAcknowledgedSpec)

/-- ITS FALSE NEIGHBOUR: 'it returns false'. Refute it at one input. -/
def linkAcknowledgedWrong : ChangeSpec := { name := "linkAcknowledged", fn := fun _ => fun
  | [d] => { results := [.lit (.bool false)], args := [d] }
  | _ => none }
def LinkAcknowledgedWrongFalsely : Prop := linkAcknowledgedRow.holds Tryd.pinned (OpenSpec.ofChange linkAcknowledgedWrong)

/-- 'dialtonelaw41.LinkForged': WHATEVER THE INPUT: true; the input reads as it did. -/
def linkForgedSpec : ChangeSpec := { name := "linkForged", fn := fun _ => fun
  | [d1, d2, d3, d4] => { results := [.lit (.bool true)], args := [d1, d2, d3, d4] }
  | _ => none }
def linkForgedRow : OpenClaim := { program := "ytkjhhifhgcihpaadoor", sum := "57a67e0cbf7233fc32481920c3fc9b8bc92cafd279f164ea093060787a9c37de", func := "dialtone/dialtonelaw41.LinkForged", spec := "linkForged", inPlace := ["internal/abi.NoEscape", "internal/bytealg.MakeNoZero"], unfollowed := true, recurses := true, named := ["dialtone/digest.round"], apart := false, laid := [("dialtone/digest.round", laid_dialtone_digest_round)] }
def LinkForgedSaid : Prop := linkForgedRow.holds Tryd.pinned (OpenSpec.ofChange linkForgedSpec)

/-- ITS FALSE NEIGHBOUR: 'it returns false'. Refute it at one input. -/
def linkForgedWrong : ChangeSpec := { name := "linkForged", fn := fun _ => fun
  | [d1, d2, d3, d4] => { results := [.lit (.bool false)], args := [d1, d2, d3, d4] }
  | _ => none }
def LinkForgedWrongFalsely : Prop := linkForgedRow.holds Tryd.pinned (OpenSpec.ofChange linkForgedWrong)

/-- 'dialtonelaw41.LinkDoubled': WHATEVER THE INPUT: true; the input reads as it did. -/
def linkDoubledSpec : ChangeSpec := { name := "linkDoubled", fn := fun _ => fun
  | [d1, d2, d3] => { results := [.lit (.bool true)], args := [d1, d2, d3] }
  | _ => none }
def linkDoubledRow : OpenClaim := { program := "ytkjhhifhgcihpaadoor", sum := "57a67e0cbf7233fc32481920c3fc9b8bc92cafd279f164ea093060787a9c37de", func := "dialtone/dialtonelaw41.LinkDoubled", spec := "linkDoubled", inPlace := ["internal/abi.NoEscape", "internal/bytealg.MakeNoZero"], unfollowed := true, recurses := true, named := ["dialtone/digest.round"], apart := false, laid := [("dialtone/digest.round", laid_dialtone_digest_round)] }
def LinkDoubledSaid : Prop := linkDoubledRow.holds Tryd.pinned (OpenSpec.ofChange linkDoubledSpec)

/-- ITS FALSE NEIGHBOUR: 'it returns false'. Refute it at one input. -/
def linkDoubledWrong : ChangeSpec := { name := "linkDoubled", fn := fun _ => fun
  | [d1, d2, d3] => { results := [.lit (.bool false)], args := [d1, d2, d3] }
  | _ => none }
def LinkDoubledWrongFalsely : Prop := linkDoubledRow.holds Tryd.pinned (OpenSpec.ofChange linkDoubledWrong)

/-- 'dialtonelaw41.LinkOut': WHATEVER THE INPUT: true; the input reads as it did. -/
def linkOutSpec : ChangeSpec := { name := "linkOut", fn := fun _ => fun
  | [d] => { results := [.lit (.bool true)], args := [d] }
  | _ => none }
def linkOutRow : OpenClaim := { program := "ytkjhhifhgcihpaadoor", sum := "57a67e0cbf7233fc32481920c3fc9b8bc92cafd279f164ea093060787a9c37de", func := "dialtone/dialtonelaw41.LinkOut", spec := "linkOut", inPlace := ["internal/abi.NoEscape", "internal/bytealg.MakeNoZero"], unfollowed := true, recurses := true, named := ["dialtone/digest.round"], apart := false, laid := [("dialtone/digest.round", laid_dialtone_digest_round)] }
def LinkOutSaid : Prop := linkOutRow.holds Tryd.pinned (OpenSpec.ofChange linkOutSpec)

/-- ITS FALSE NEIGHBOUR: 'it returns false'. Refute it at one input. -/
def linkOutWrong : ChangeSpec := { name := "linkOut", fn := fun _ => fun
  | [d] => { results := [.lit (.bool false)], args := [d] }
  | _ => none }
def LinkOutWrongFalsely : Prop := linkOutRow.holds Tryd.pinned (OpenSpec.ofChange linkOutWrong)

/-- 'dialtonelaw41.LinkOrder': WHATEVER THE INPUT: true; the input reads as it did. -/
def linkOrderSpec : ChangeSpec := { name := "linkOrder", fn := fun _ => fun
  | [d1, d2] => { results := [.lit (.bool true)], args := [d1, d2] }
  | _ => none }
def linkOrderRow : OpenClaim := { program := "ytkjhhifhgcihpaadoor", sum := "57a67e0cbf7233fc32481920c3fc9b8bc92cafd279f164ea093060787a9c37de", func := "dialtone/dialtonelaw41.LinkOrder", spec := "linkOrder", inPlace := ["internal/abi.NoEscape", "internal/bytealg.MakeNoZero"], unfollowed := true, recurses := true, named := ["dialtone/digest.round"], apart := false, laid := [("dialtone/digest.round", laid_dialtone_digest_round)] }
def LinkOrderSaid : Prop := linkOrderRow.holds Tryd.pinned (OpenSpec.ofChange linkOrderSpec)

/-- ITS FALSE NEIGHBOUR: 'it returns false'. Refute it at one input. -/
def linkOrderWrong : ChangeSpec := { name := "linkOrder", fn := fun _ => fun
  | [d1, d2] => { results := [.lit (.bool false)], args := [d1, d2] }
  | _ => none }
def LinkOrderWrongFalsely : Prop := linkOrderRow.holds Tryd.pinned (OpenSpec.ofChange linkOrderWrong)

/-- 'dialtonelaw41.LinkAgain': WHATEVER THE INPUT: true; the input reads as it did. -/
def linkAgainSpec : ChangeSpec := { name := "linkAgain", fn := fun _ => fun
  | [d] => { results := [.lit (.bool true)], args := [d] }
  | _ => none }
def linkAgainRow : OpenClaim := { program := "ytkjhhifhgcihpaadoor", sum := "57a67e0cbf7233fc32481920c3fc9b8bc92cafd279f164ea093060787a9c37de", func := "dialtone/dialtonelaw41.LinkAgain", spec := "linkAgain", inPlace := ["internal/abi.NoEscape", "internal/bytealg.MakeNoZero"], unfollowed := true, recurses := true, named := ["dialtone/digest.round"], apart := false, laid := [("dialtone/digest.round", laid_dialtone_digest_round)] }
def LinkAgainSaid : Prop := linkAgainRow.holds Tryd.pinned (OpenSpec.ofChange linkAgainSpec)

/-- ITS FALSE NEIGHBOUR: 'it returns false'. Refute it at one input. -/
def linkAgainWrong : ChangeSpec := { name := "linkAgain", fn := fun _ => fun
  | [d] => { results := [.lit (.bool false)], args := [d] }
  | _ => none }
def LinkAgainWrongFalsely : Prop := linkAgainRow.holds Tryd.pinned (OpenSpec.ofChange linkAgainWrong)

/-- 'dialtonelaw41.LinkNil': WHATEVER THE INPUT: true; the input reads as it did. -/
def linkNilSpec : ChangeSpec := { name := "linkNil", fn := fun _ => fun
  | [d1, d2] => { results := [.lit (.bool true)], args := [d1, d2] }
  | _ => none }
def linkNilRow : OpenClaim := { program := "ytkjhhifhgcihpaadoor", sum := "57a67e0cbf7233fc32481920c3fc9b8bc92cafd279f164ea093060787a9c37de", func := "dialtone/dialtonelaw41.LinkNil", spec := "linkNil", inPlace := ["internal/abi.NoEscape", "internal/bytealg.MakeNoZero"], unfollowed := true, recurses := true, named := ["dialtone/digest.round"], apart := false, laid := [("dialtone/digest.round", laid_dialtone_digest_round)] }
def LinkNilSaid : Prop := linkNilRow.holds Tryd.pinned (OpenSpec.ofChange linkNilSpec)

/-- ITS FALSE NEIGHBOUR: 'it returns false'. Refute it at one input. -/
def linkNilWrong : ChangeSpec := { name := "linkNil", fn := fun _ => fun
  | [d1, d2] => { results := [.lit (.bool false)], args := [d1, d2] }
  | _ => none }
def LinkNilWrongFalsely : Prop := linkNilRow.holds Tryd.pinned (OpenSpec.ofChange linkNilWrong)

/- THE SECOND FORM. 'bulk': how many values and letters a reading holds, each counted each time it is reached (what is shared counts as often as it is met; a slice's spare places count too). A statement '..UptoSaid' is the law's where the arguments, and the package variables that the reading takes, are together of bulk at most 1048576: NARROWER than '..Said'. Prove '..Said' where nothing that the law and all that it calls make is longer than what came in: it says more and counts as full. Else prove '..UptoSaid'. A law counts once. -/
mutual
def uptoBulk {H : Type} : DataW H → Nat
  | .lit (.string bytes) => bytes.length + 1
  | .lit _ => 1
  | .nil => 1
  | .ptr d => uptoBulk d + 1
  | .slice elems spare => uptoBulkAll elems + uptoBulkAll spare + 1
  | .agg parts => uptoBulkAll parts + 1
  | .iface _ d => uptoBulk d + 1
  | .map entries => uptoBulkEntries entries + 1
  | .held _ => 1
def uptoBulkAll {H : Type} : List (DataW H) → Nat
  | [] => 0
  | d :: r => uptoBulk d + uptoBulkAll r
def uptoBulkEntries {H : Type} : List (Lit × DataW H) → Nat
  | [] => 0
  | x :: r => uptoBulkEntry x + uptoBulkEntries r
def uptoBulkEntry {H : Type} : Lit × DataW H → Nat
  | (.string bytes, d) => bytes.length + uptoBulk d + 1
  | (_, d) => uptoBulk d + 1
 end
def uptoSmall : (H : Type) → List (DataW H) → Bool := fun _ ds => decide (uptoBulkAll ds ≤ 1048576)
def OpenSpec.upto (s : _root_.Go.ChangeSpec) : _root_.Go.OpenSpec := { _root_.Go.OpenSpec.ofChange s with cond := some uptoSmall }

/-- 'dialtonelaw41.LinkMatchesReference', WHERE WHAT IT READS IS OF BULK AT MOST 1048576: true; the input reads as it did. -/
def linkMatchesReferenceUptoRow : OpenClaim := { program := "ytkjhhifhgcihpaadoor", sum := "57a67e0cbf7233fc32481920c3fc9b8bc92cafd279f164ea093060787a9c37de", func := "dialtone/dialtonelaw41.LinkMatchesReference", spec := "linkMatchesReference", inPlace := ["internal/abi.NoEscape", "internal/bytealg.MakeNoZero"], unfollowed := true, recurses := true, named := ["dialtone/digest.round"], apart := false, laid := [("dialtone/digest.round", laid_dialtone_digest_round)], narrowed := true }
def LinkMatchesReferenceUptoSaid : Prop := linkMatchesReferenceUptoRow.holds Tryd.pinned (OpenSpec.upto linkMatchesReferenceSpec)

/-- 'dialtonelaw41.LinkOnce', WHERE WHAT IT READS IS OF BULK AT MOST 1048576: true; the input reads as it did. -/
def linkOnceUptoRow : OpenClaim := { program := "ytkjhhifhgcihpaadoor", sum := "57a67e0cbf7233fc32481920c3fc9b8bc92cafd279f164ea093060787a9c37de", func := "dialtone/dialtonelaw41.LinkOnce", spec := "linkOnce", inPlace := ["internal/abi.NoEscape", "internal/bytealg.MakeNoZero"], unfollowed := true, recurses := true, named := ["dialtone/digest.round"], apart := false, laid := [("dialtone/digest.round", laid_dialtone_digest_round)], narrowed := true }
def LinkOnceUptoSaid : Prop := linkOnceUptoRow.holds Tryd.pinned (OpenSpec.upto linkOnceSpec)

/-- 'dialtonelaw41.LinkAll', WHERE WHAT IT READS IS OF BULK AT MOST 1048576: true; the input reads as it did. -/
def linkAllUptoRow : OpenClaim := { program := "ytkjhhifhgcihpaadoor", sum := "57a67e0cbf7233fc32481920c3fc9b8bc92cafd279f164ea093060787a9c37de", func := "dialtone/dialtonelaw41.LinkAll", spec := "linkAll", inPlace := ["internal/abi.NoEscape", "internal/bytealg.MakeNoZero"], unfollowed := true, recurses := true, named := ["dialtone/digest.round"], apart := false, laid := [("dialtone/digest.round", laid_dialtone_digest_round)], narrowed := true }
def LinkAllUptoSaid : Prop := linkAllUptoRow.holds Tryd.pinned (OpenSpec.upto linkAllSpec)

/-- 'dialtonelaw41.LinkAcknowledged', WHERE WHAT IT READS IS OF BULK AT MOST 1048576: true; the input reads as it did. -/
def linkAcknowledgedUptoRow : OpenClaim := { program := "ytkjhhifhgcihpaadoor", sum := "57a67e0cbf7233fc32481920c3fc9b8bc92cafd279f164ea093060787a9c37de", func := "dialtone/dialtonelaw41.LinkAcknowledged", spec := "linkAcknowledged", inPlace := ["internal/abi.NoEscape", "internal/bytealg.MakeNoZero"], unfollowed := true, recurses := true, named := ["dialtone/digest.round"], apart := false, laid := [("dialtone/digest.round", laid_dialtone_digest_round)], narrowed := true }
def LinkAcknowledgedUptoSaid : Prop := linkAcknowledgedUptoRow.holds Tryd.pinned (OpenSpec.upto linkAcknowledgedSpec)

/-- 'dialtonelaw41.LinkForged', WHERE WHAT IT READS IS OF BULK AT MOST 1048576: true; the input reads as it did. -/
def linkForgedUptoRow : OpenClaim := { program := "ytkjhhifhgcihpaadoor", sum := "57a67e0cbf7233fc32481920c3fc9b8bc92cafd279f164ea093060787a9c37de", func := "dialtone/dialtonelaw41.LinkForged", spec := "linkForged", inPlace := ["internal/abi.NoEscape", "internal/bytealg.MakeNoZero"], unfollowed := true, recurses := true, named := ["dialtone/digest.round"], apart := false, laid := [("dialtone/digest.round", laid_dialtone_digest_round)], narrowed := true }
def LinkForgedUptoSaid : Prop := linkForgedUptoRow.holds Tryd.pinned (OpenSpec.upto linkForgedSpec)

/-- 'dialtonelaw41.LinkDoubled', WHERE WHAT IT READS IS OF BULK AT MOST 1048576: true; the input reads as it did. -/
def linkDoubledUptoRow : OpenClaim := { program := "ytkjhhifhgcihpaadoor", sum := "57a67e0cbf7233fc32481920c3fc9b8bc92cafd279f164ea093060787a9c37de", func := "dialtone/dialtonelaw41.LinkDoubled", spec := "linkDoubled", inPlace := ["internal/abi.NoEscape", "internal/bytealg.MakeNoZero"], unfollowed := true, recurses := true, named := ["dialtone/digest.round"], apart := false, laid := [("dialtone/digest.round", laid_dialtone_digest_round)], narrowed := true }
def LinkDoubledUptoSaid : Prop := linkDoubledUptoRow.holds Tryd.pinned (OpenSpec.upto linkDoubledSpec)

/-- 'dialtonelaw41.LinkOut', WHERE WHAT IT READS IS OF BULK AT MOST 1048576: true; the input reads as it did. -/
def linkOutUptoRow : OpenClaim := { program := "ytkjhhifhgcihpaadoor", sum := "57a67e0cbf7233fc32481920c3fc9b8bc92cafd279f164ea093060787a9c37de", func := "dialtone/dialtonelaw41.LinkOut", spec := "linkOut", inPlace := ["internal/abi.NoEscape", "internal/bytealg.MakeNoZero"], unfollowed := true, recurses := true, named := ["dialtone/digest.round"], apart := false, laid := [("dialtone/digest.round", laid_dialtone_digest_round)], narrowed := true }
def LinkOutUptoSaid : Prop := linkOutUptoRow.holds Tryd.pinned (OpenSpec.upto linkOutSpec)

/-- 'dialtonelaw41.LinkOrder', WHERE WHAT IT READS IS OF BULK AT MOST 1048576: true; the input reads as it did. -/
def linkOrderUptoRow : OpenClaim := { program := "ytkjhhifhgcihpaadoor", sum := "57a67e0cbf7233fc32481920c3fc9b8bc92cafd279f164ea093060787a9c37de", func := "dialtone/dialtonelaw41.LinkOrder", spec := "linkOrder", inPlace := ["internal/abi.NoEscape", "internal/bytealg.MakeNoZero"], unfollowed := true, recurses := true, named := ["dialtone/digest.round"], apart := false, laid := [("dialtone/digest.round", laid_dialtone_digest_round)], narrowed := true }
def LinkOrderUptoSaid : Prop := linkOrderUptoRow.holds Tryd.pinned (OpenSpec.upto linkOrderSpec)

/-- 'dialtonelaw41.LinkAgain', WHERE WHAT IT READS IS OF BULK AT MOST 1048576: true; the input reads as it did. -/
def linkAgainUptoRow : OpenClaim := { program := "ytkjhhifhgcihpaadoor", sum := "57a67e0cbf7233fc32481920c3fc9b8bc92cafd279f164ea093060787a9c37de", func := "dialtone/dialtonelaw41.LinkAgain", spec := "linkAgain", inPlace := ["internal/abi.NoEscape", "internal/bytealg.MakeNoZero"], unfollowed := true, recurses := true, named := ["dialtone/digest.round"], apart := false, laid := [("dialtone/digest.round", laid_dialtone_digest_round)], narrowed := true }
def LinkAgainUptoSaid : Prop := linkAgainUptoRow.holds Tryd.pinned (OpenSpec.upto linkAgainSpec)

/-- 'dialtonelaw41.LinkNil', WHERE WHAT IT READS IS OF BULK AT MOST 1048576: true; the input reads as it did. -/
def linkNilUptoRow : OpenClaim := { program := "ytkjhhifhgcihpaadoor", sum := "57a67e0cbf7233fc32481920c3fc9b8bc92cafd279f164ea093060787a9c37de", func := "dialtone/dialtonelaw41.LinkNil", spec := "linkNil", inPlace := ["internal/abi.NoEscape", "internal/bytealg.MakeNoZero"], unfollowed := true, recurses := true, named := ["dialtone/digest.round"], apart := false, laid := [("dialtone/digest.round", laid_dialtone_digest_round)], narrowed := true }
def LinkNilUptoSaid : Prop := linkNilUptoRow.holds Tryd.pinned (OpenSpec.upto linkNilSpec)

end Rows
end Go.Proofs.YtkjhhifhgcihpaaDoor
