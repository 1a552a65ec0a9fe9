/-
  NARROWER THAN 'FOR EVERY INPUT', by the rows' own cells (each row's printed sentence says how): TagTells: laid · WireAskBack: laid · TxSigns: laid · WireReplyBack: laid · TxTells: laid · TagBack: laid · TagNames: laid · HeaderTells: laid · HeaderOne: laid · ReceiptNames: laid · ReceiptTells: laid · TxReads: laid · TxBack: laid · TxNames: laid · HeaderNames: laid · WireAsks: laid · WireNames: laid.
  DERIVED. THE GIVEN ROWS OF THIS SEAT. 17 by the template 'for every input the law returns true; each argument reads behind the call as it read before'; 0 by the template 'total and deterministic' (their statements: YtgndidjfjdaagaaDoorTotals.lean).
  GIVEN WITH THE SEED: the statements are not yours to turn. If you find one false, say at which input.
  Laid BY PROGRAM, IN A SANDBOX (cutbox-rows.mjs): the forced cells as the released guide's own fill.sh prints them over the translation 44c2e2c23be72aad… (all of the seat's roots in one cut). By AI agents, Wed Nov 11 2026. No macro, syntax, notation, axiom, sorry.
-/
import Derived.Test.YtgndidjfjdaagaaDoorChecked
import GoSem.Claim
import GoSem.ClaimJoined
import GoSem.ClaimMapViews
import Derived.JoinedTies
import Derived.KernelRfl
namespace Go.Proofs.YtgndidjfjdaagaaDoor
/- THE CELL 'sum', in the pinned program and in every row, IS THE sha256 OF THE DUMP (.gsa) THAT YtgndidjfjdaagaaDoorProg.lean LOADS. Nothing in Lean hashes anything: it is a label: what it is worth is what the hold of that sum in a sandbox is worth. -/
noncomputable def Tryd.pinned : Pinned := { name := "ytgndidjfjdaagaadoor", sum := "44c2e2c23be72aadb84323c6edddfe69bbecde0cbc0bda239f2414824b64959e", checked := Tryd.checked }
namespace Rows
def none {H : Type} : Left H := { results := [], args := [] }

/- WHAT THE LISTED PACKAGE-LEVEL VARIABLES READ AS WHEN THE CALL BEGINS. Each datum BY PROGRAM (the guide's laid-datum.mjs) off the statement by which the dump's own 'gosem.cut.vars' lays the variable. In a bare row this is a premise. The card (YtgndidjfjdaagaaDoorCards.lean) ties it to the program's text. -/
def laid_beadroll_sha_k {H : Type} : DataW H := .agg [.lit (.int .u32 1116352408), .lit (.int .u32 1899447441), .lit (.int .u32 3049323471), .lit (.int .u32 3921009573), .lit (.int .u32 961987163), .lit (.int .u32 1508970993), .lit (.int .u32 2453635748), .lit (.int .u32 2870763221), .lit (.int .u32 3624381080), .lit (.int .u32 310598401), .lit (.int .u32 607225278), .lit (.int .u32 1426881987), .lit (.int .u32 1925078388), .lit (.int .u32 2162078206), .lit (.int .u32 2614888103), .lit (.int .u32 3248222580), .lit (.int .u32 3835390401), .lit (.int .u32 4022224774), .lit (.int .u32 264347078), .lit (.int .u32 604807628), .lit (.int .u32 770255983), .lit (.int .u32 1249150122), .lit (.int .u32 1555081692), .lit (.int .u32 1996064986), .lit (.int .u32 2554220882), .lit (.int .u32 2821834349), .lit (.int .u32 2952996808), .lit (.int .u32 3210313671), .lit (.int .u32 3336571891), .lit (.int .u32 3584528711), .lit (.int .u32 113926993), .lit (.int .u32 338241895), .lit (.int .u32 666307205), .lit (.int .u32 773529912), .lit (.int .u32 1294757372), .lit (.int .u32 1396182291), .lit (.int .u32 1695183700), .lit (.int .u32 1986661051), .lit (.int .u32 2177026350), .lit (.int .u32 2456956037), .lit (.int .u32 2730485921), .lit (.int .u32 2820302411), .lit (.int .u32 3259730800), .lit (.int .u32 3345764771), .lit (.int .u32 3516065817), .lit (.int .u32 3600352804), .lit (.int .u32 4094571909), .lit (.int .u32 275423344), .lit (.int .u32 430227734), .lit (.int .u32 506948616), .lit (.int .u32 659060556), .lit (.int .u32 883997877), .lit (.int .u32 958139571), .lit (.int .u32 1322822218), .lit (.int .u32 1537002063), .lit (.int .u32 1747873779), .lit (.int .u32 1955562222), .lit (.int .u32 2024104815), .lit (.int .u32 2227730452), .lit (.int .u32 2361852424), .lit (.int .u32 2428436474), .lit (.int .u32 2756734187), .lit (.int .u32 3204031479), .lit (.int .u32 3329325298)]

/-- 'beadrolllaw03.TagTells': WHATEVER THE INPUT: true; the input reads as it did. -/
def tagTellsSpec : ChangeSpec := { name := "tagTells", fn := fun _ => fun
  | [d1, d2] => { results := [.lit (.bool true)], args := [d1, d2] }
  | _ => none }
def tagTellsRow : OpenClaim := { program := "ytgndidjfjdaagaadoor", sum := "44c2e2c23be72aadb84323c6edddfe69bbecde0cbc0bda239f2414824b64959e", func := "beadroll/beadrolllaw03.TagTells", spec := "tagTells", named := ["beadroll/sha.k"], apart := false, laid := [("beadroll/sha.k", laid_beadroll_sha_k)] }
def TagTellsSaid : Prop := tagTellsRow.holds Tryd.pinned (OpenSpec.ofChange tagTellsSpec)

/-- ITS FALSE NEIGHBOUR: 'it returns false'. Refute it at one input. -/
def tagTellsWrong : ChangeSpec := { name := "tagTells", fn := fun _ => fun
  | [d1, d2] => { results := [.lit (.bool false)], args := [d1, d2] }
  | _ => none }
def TagTellsWrongFalsely : Prop := tagTellsRow.holds Tryd.pinned (OpenSpec.ofChange tagTellsWrong)

/-- 'beadrolllaw22.WireAskBack': WHATEVER THE INPUT: true; the input reads as it did. -/
def wireAskBackSpec : ChangeSpec := { name := "wireAskBack", fn := fun _ => fun
  | [d1, d2] => { results := [.lit (.bool true)], args := [d1, d2] }
  | _ => none }
def wireAskBackRow : OpenClaim := { program := "ytgndidjfjdaagaadoor", sum := "44c2e2c23be72aadb84323c6edddfe69bbecde0cbc0bda239f2414824b64959e", func := "beadroll/beadrolllaw22.WireAskBack", spec := "wireAskBack", inPlace := ["internal/bytealg.MakeNoZero"], unfollowed := true, recurses := true, named := ["beadroll/sha.k"], apart := false, laid := [("beadroll/sha.k", laid_beadroll_sha_k)] }
def WireAskBackSaid : Prop := wireAskBackRow.holds Tryd.pinned (OpenSpec.ofChange wireAskBackSpec)

/-- ITS FALSE NEIGHBOUR: 'it returns false'. Refute it at one input. -/
def wireAskBackWrong : ChangeSpec := { name := "wireAskBack", fn := fun _ => fun
  | [d1, d2] => { results := [.lit (.bool false)], args := [d1, d2] }
  | _ => none }
def WireAskBackWrongFalsely : Prop := wireAskBackRow.holds Tryd.pinned (OpenSpec.ofChange wireAskBackWrong)

/-- 'beadrolllaw11.TxSigns': WHATEVER THE INPUT: true; the input reads as it did. -/
def txSignsSpec : ChangeSpec := { name := "txSigns", fn := fun _ => fun
  | [d1, d2] => { results := [.lit (.bool true)], args := [d1, d2] }
  | _ => none }
def txSignsRow : OpenClaim := { program := "ytgndidjfjdaagaadoor", sum := "44c2e2c23be72aadb84323c6edddfe69bbecde0cbc0bda239f2414824b64959e", func := "beadroll/beadrolllaw11.TxSigns", spec := "txSigns", unfollowed := true, recurses := true, named := ["beadroll/sha.k"], apart := false, laid := [("beadroll/sha.k", laid_beadroll_sha_k)] }
def TxSignsSaid : Prop := txSignsRow.holds Tryd.pinned (OpenSpec.ofChange txSignsSpec)

/-- ITS FALSE NEIGHBOUR: 'it returns false'. Refute it at one input. -/
def txSignsWrong : ChangeSpec := { name := "txSigns", fn := fun _ => fun
  | [d1, d2] => { results := [.lit (.bool false)], args := [d1, d2] }
  | _ => none }
def TxSignsWrongFalsely : Prop := txSignsRow.holds Tryd.pinned (OpenSpec.ofChange txSignsWrong)

/-- 'beadrolllaw22.WireReplyBack': WHATEVER THE INPUT: true; the input reads as it did. -/
def wireReplyBackSpec : ChangeSpec := { name := "wireReplyBack", fn := fun _ => fun
  | [d1, d2] => { results := [.lit (.bool true)], args := [d1, d2] }
  | _ => none }
def wireReplyBackRow : OpenClaim := { program := "ytgndidjfjdaagaadoor", sum := "44c2e2c23be72aadb84323c6edddfe69bbecde0cbc0bda239f2414824b64959e", func := "beadroll/beadrolllaw22.WireReplyBack", spec := "wireReplyBack", inPlace := ["internal/bytealg.MakeNoZero"], unfollowed := true, recurses := true, named := ["beadroll/sha.k"], apart := false, laid := [("beadroll/sha.k", laid_beadroll_sha_k)] }
def WireReplyBackSaid : Prop := wireReplyBackRow.holds Tryd.pinned (OpenSpec.ofChange wireReplyBackSpec)

/-- ITS FALSE NEIGHBOUR: 'it returns false'. Refute it at one input. -/
def wireReplyBackWrong : ChangeSpec := { name := "wireReplyBack", fn := fun _ => fun
  | [d1, d2] => { results := [.lit (.bool false)], args := [d1, d2] }
  | _ => none }
def WireReplyBackWrongFalsely : Prop := wireReplyBackRow.holds Tryd.pinned (OpenSpec.ofChange wireReplyBackWrong)

/-- 'beadrolllaw11.TxTells': WHATEVER THE INPUT: true; the input reads as it did. -/
def txTellsSpec : ChangeSpec := { name := "txTells", fn := fun _ => fun
  | [d] => { results := [.lit (.bool true)], args := [d] }
  | _ => none }
def txTellsRow : OpenClaim := { program := "ytgndidjfjdaagaadoor", sum := "44c2e2c23be72aadb84323c6edddfe69bbecde0cbc0bda239f2414824b64959e", func := "beadroll/beadrolllaw11.TxTells", spec := "txTells", unfollowed := true, recurses := true, named := ["beadroll/sha.k"], apart := false, laid := [("beadroll/sha.k", laid_beadroll_sha_k)] }
def TxTellsSaid : Prop := txTellsRow.holds Tryd.pinned (OpenSpec.ofChange txTellsSpec)

/-- ITS FALSE NEIGHBOUR: 'it returns false'. Refute it at one input. -/
def txTellsWrong : ChangeSpec := { name := "txTells", fn := fun _ => fun
  | [d] => { results := [.lit (.bool false)], args := [d] }
  | _ => none }
def TxTellsWrongFalsely : Prop := txTellsRow.holds Tryd.pinned (OpenSpec.ofChange txTellsWrong)

/-- 'beadrolllaw03.TagBack': WHATEVER THE INPUT: true; the input reads as it did. -/
def tagBackSpec : ChangeSpec := { name := "tagBack", fn := fun _ => fun
  | [d] => { results := [.lit (.bool true)], args := [d] }
  | _ => none }
def tagBackRow : OpenClaim := { program := "ytgndidjfjdaagaadoor", sum := "44c2e2c23be72aadb84323c6edddfe69bbecde0cbc0bda239f2414824b64959e", func := "beadroll/beadrolllaw03.TagBack", spec := "tagBack", unfollowed := true, recurses := true, named := ["beadroll/sha.k"], apart := false, laid := [("beadroll/sha.k", laid_beadroll_sha_k)] }
def TagBackSaid : Prop := tagBackRow.holds Tryd.pinned (OpenSpec.ofChange tagBackSpec)

/-- ITS FALSE NEIGHBOUR: 'it returns false'. Refute it at one input. -/
def tagBackWrong : ChangeSpec := { name := "tagBack", fn := fun _ => fun
  | [d] => { results := [.lit (.bool false)], args := [d] }
  | _ => none }
def TagBackWrongFalsely : Prop := tagBackRow.holds Tryd.pinned (OpenSpec.ofChange tagBackWrong)

/-- 'beadrolllaw03.TagNames': WHATEVER THE INPUT: true; the input reads as it did. -/
def tagNamesSpec : ChangeSpec := { name := "tagNames", fn := fun _ => fun
  | [] => { results := [.lit (.bool true)], args := [] }
  | _ => none }
def tagNamesRow : OpenClaim := { program := "ytgndidjfjdaagaadoor", sum := "44c2e2c23be72aadb84323c6edddfe69bbecde0cbc0bda239f2414824b64959e", func := "beadroll/beadrolllaw03.TagNames", spec := "tagNames", unfollowed := true, recurses := true, named := ["beadroll/sha.k"], apart := false, laid := [("beadroll/sha.k", laid_beadroll_sha_k)] }
def TagNamesSaid : Prop := tagNamesRow.holds Tryd.pinned (OpenSpec.ofChange tagNamesSpec)

/-- ITS FALSE NEIGHBOUR: 'it returns false'. Refute it at one input. -/
def tagNamesWrong : ChangeSpec := { name := "tagNames", fn := fun _ => fun
  | [] => { results := [.lit (.bool false)], args := [] }
  | _ => none }
def TagNamesWrongFalsely : Prop := tagNamesRow.holds Tryd.pinned (OpenSpec.ofChange tagNamesWrong)

/-- 'beadrolllaw14.HeaderTells': WHATEVER THE INPUT: true; the input reads as it did. -/
def headerTellsSpec : ChangeSpec := { name := "headerTells", fn := fun _ => fun
  | [d1, d2] => { results := [.lit (.bool true)], args := [d1, d2] }
  | _ => none }
def headerTellsRow : OpenClaim := { program := "ytgndidjfjdaagaadoor", sum := "44c2e2c23be72aadb84323c6edddfe69bbecde0cbc0bda239f2414824b64959e", func := "beadroll/beadrolllaw14.HeaderTells", spec := "headerTells", inPlace := ["internal/bytealg.MakeNoZero"], named := ["beadroll/sha.k"], apart := false, laid := [("beadroll/sha.k", laid_beadroll_sha_k)] }
def HeaderTellsSaid : Prop := headerTellsRow.holds Tryd.pinned (OpenSpec.ofChange headerTellsSpec)

/-- ITS FALSE NEIGHBOUR: 'it returns false'. Refute it at one input. -/
def headerTellsWrong : ChangeSpec := { name := "headerTells", fn := fun _ => fun
  | [d1, d2] => { results := [.lit (.bool false)], args := [d1, d2] }
  | _ => none }
def HeaderTellsWrongFalsely : Prop := headerTellsRow.holds Tryd.pinned (OpenSpec.ofChange headerTellsWrong)

/-- 'beadrolllaw14.HeaderOne': WHATEVER THE INPUT: true; the input reads as it did. -/
def headerOneSpec : ChangeSpec := { name := "headerOne", fn := fun _ => fun
  | [d1, d2, d3] => { results := [.lit (.bool true)], args := [d1, d2, d3] }
  | _ => none }
def headerOneRow : OpenClaim := { program := "ytgndidjfjdaagaadoor", sum := "44c2e2c23be72aadb84323c6edddfe69bbecde0cbc0bda239f2414824b64959e", func := "beadroll/beadrolllaw14.HeaderOne", spec := "headerOne", inPlace := ["internal/bytealg.MakeNoZero"], named := ["beadroll/sha.k"], apart := false, laid := [("beadroll/sha.k", laid_beadroll_sha_k)] }
def HeaderOneSaid : Prop := headerOneRow.holds Tryd.pinned (OpenSpec.ofChange headerOneSpec)

/-- ITS FALSE NEIGHBOUR: 'it returns false'. Refute it at one input. -/
def headerOneWrong : ChangeSpec := { name := "headerOne", fn := fun _ => fun
  | [d1, d2, d3] => { results := [.lit (.bool false)], args := [d1, d2, d3] }
  | _ => none }
def HeaderOneWrongFalsely : Prop := headerOneRow.holds Tryd.pinned (OpenSpec.ofChange headerOneWrong)

/-- 'beadrolllaw12.ReceiptNames': WHATEVER THE INPUT: true; the input reads as it did. -/
def receiptNamesSpec : ChangeSpec := { name := "receiptNames", fn := fun _ => fun
  | [] => { results := [.lit (.bool true)], args := [] }
  | _ => none }
def receiptNamesRow : OpenClaim := { program := "ytgndidjfjdaagaadoor", sum := "44c2e2c23be72aadb84323c6edddfe69bbecde0cbc0bda239f2414824b64959e", func := "beadroll/beadrolllaw12.ReceiptNames", spec := "receiptNames", named := ["beadroll/sha.k"], apart := false, laid := [("beadroll/sha.k", laid_beadroll_sha_k)] }
def ReceiptNamesSaid : Prop := receiptNamesRow.holds Tryd.pinned (OpenSpec.ofChange receiptNamesSpec)

/-- ITS FALSE NEIGHBOUR: 'it returns false'. Refute it at one input. -/
def receiptNamesWrong : ChangeSpec := { name := "receiptNames", fn := fun _ => fun
  | [] => { results := [.lit (.bool false)], args := [] }
  | _ => none }
def ReceiptNamesWrongFalsely : Prop := receiptNamesRow.holds Tryd.pinned (OpenSpec.ofChange receiptNamesWrong)

/-- 'beadrolllaw12.ReceiptTells': WHATEVER THE INPUT: true; the input reads as it did. -/
def receiptTellsSpec : ChangeSpec := { name := "receiptTells", fn := fun _ => fun
  | [d1, d2, d3] => { results := [.lit (.bool true)], args := [d1, d2, d3] }
  | _ => none }
def receiptTellsRow : OpenClaim := { program := "ytgndidjfjdaagaadoor", sum := "44c2e2c23be72aadb84323c6edddfe69bbecde0cbc0bda239f2414824b64959e", func := "beadroll/beadrolllaw12.ReceiptTells", spec := "receiptTells", named := ["beadroll/sha.k"], apart := false, laid := [("beadroll/sha.k", laid_beadroll_sha_k)] }
def ReceiptTellsSaid : Prop := receiptTellsRow.holds Tryd.pinned (OpenSpec.ofChange receiptTellsSpec)

/-- ITS FALSE NEIGHBOUR: 'it returns false'. Refute it at one input. -/
def receiptTellsWrong : ChangeSpec := { name := "receiptTells", fn := fun _ => fun
  | [d1, d2, d3] => { results := [.lit (.bool false)], args := [d1, d2, d3] }
  | _ => none }
def ReceiptTellsWrongFalsely : Prop := receiptTellsRow.holds Tryd.pinned (OpenSpec.ofChange receiptTellsWrong)

/-- 'beadrolllaw11.TxReads': WHATEVER THE INPUT: true; the input reads as it did. -/
def txReadsSpec : ChangeSpec := { name := "txReads", fn := fun _ => fun
  | [d] => { results := [.lit (.bool true)], args := [d] }
  | _ => none }
def txReadsRow : OpenClaim := { program := "ytgndidjfjdaagaadoor", sum := "44c2e2c23be72aadb84323c6edddfe69bbecde0cbc0bda239f2414824b64959e", func := "beadroll/beadrolllaw11.TxReads", spec := "txReads", unfollowed := true, recurses := true, named := ["beadroll/sha.k"], apart := false, laid := [("beadroll/sha.k", laid_beadroll_sha_k)] }
def TxReadsSaid : Prop := txReadsRow.holds Tryd.pinned (OpenSpec.ofChange txReadsSpec)

/-- ITS FALSE NEIGHBOUR: 'it returns false'. Refute it at one input. -/
def txReadsWrong : ChangeSpec := { name := "txReads", fn := fun _ => fun
  | [d] => { results := [.lit (.bool false)], args := [d] }
  | _ => none }
def TxReadsWrongFalsely : Prop := txReadsRow.holds Tryd.pinned (OpenSpec.ofChange txReadsWrong)

/-- 'beadrolllaw11.TxBack': WHATEVER THE INPUT: true; the input reads as it did. -/
def txBackSpec : ChangeSpec := { name := "txBack", fn := fun _ => fun
  | [d1, d2] => { results := [.lit (.bool true)], args := [d1, d2] }
  | _ => none }
def txBackRow : OpenClaim := { program := "ytgndidjfjdaagaadoor", sum := "44c2e2c23be72aadb84323c6edddfe69bbecde0cbc0bda239f2414824b64959e", func := "beadroll/beadrolllaw11.TxBack", spec := "txBack", unfollowed := true, recurses := true, named := ["beadroll/sha.k"], apart := false, laid := [("beadroll/sha.k", laid_beadroll_sha_k)] }
def TxBackSaid : Prop := txBackRow.holds Tryd.pinned (OpenSpec.ofChange txBackSpec)

/-- ITS FALSE NEIGHBOUR: 'it returns false'. Refute it at one input. -/
def txBackWrong : ChangeSpec := { name := "txBack", fn := fun _ => fun
  | [d1, d2] => { results := [.lit (.bool false)], args := [d1, d2] }
  | _ => none }
def TxBackWrongFalsely : Prop := txBackRow.holds Tryd.pinned (OpenSpec.ofChange txBackWrong)

/-- 'beadrolllaw11.TxNames': WHATEVER THE INPUT: true; the input reads as it did. -/
def txNamesSpec : ChangeSpec := { name := "txNames", fn := fun _ => fun
  | [] => { results := [.lit (.bool true)], args := [] }
  | _ => none }
def txNamesRow : OpenClaim := { program := "ytgndidjfjdaagaadoor", sum := "44c2e2c23be72aadb84323c6edddfe69bbecde0cbc0bda239f2414824b64959e", func := "beadroll/beadrolllaw11.TxNames", spec := "txNames", unfollowed := true, recurses := true, named := ["beadroll/sha.k"], apart := false, laid := [("beadroll/sha.k", laid_beadroll_sha_k)] }
def TxNamesSaid : Prop := txNamesRow.holds Tryd.pinned (OpenSpec.ofChange txNamesSpec)

/-- ITS FALSE NEIGHBOUR: 'it returns false'. Refute it at one input. -/
def txNamesWrong : ChangeSpec := { name := "txNames", fn := fun _ => fun
  | [] => { results := [.lit (.bool false)], args := [] }
  | _ => none }
def TxNamesWrongFalsely : Prop := txNamesRow.holds Tryd.pinned (OpenSpec.ofChange txNamesWrong)

/-- 'beadrolllaw14.HeaderNames': WHATEVER THE INPUT: true; the input reads as it did. -/
def headerNamesSpec : ChangeSpec := { name := "headerNames", fn := fun _ => fun
  | [] => { results := [.lit (.bool true)], args := [] }
  | _ => none }
def headerNamesRow : OpenClaim := { program := "ytgndidjfjdaagaadoor", sum := "44c2e2c23be72aadb84323c6edddfe69bbecde0cbc0bda239f2414824b64959e", func := "beadroll/beadrolllaw14.HeaderNames", spec := "headerNames", inPlace := ["internal/bytealg.MakeNoZero"], named := ["beadroll/sha.k"], apart := false, laid := [("beadroll/sha.k", laid_beadroll_sha_k)] }
def HeaderNamesSaid : Prop := headerNamesRow.holds Tryd.pinned (OpenSpec.ofChange headerNamesSpec)

/-- ITS FALSE NEIGHBOUR: 'it returns false'. Refute it at one input. -/
def headerNamesWrong : ChangeSpec := { name := "headerNames", fn := fun _ => fun
  | [] => { results := [.lit (.bool false)], args := [] }
  | _ => none }
def HeaderNamesWrongFalsely : Prop := headerNamesRow.holds Tryd.pinned (OpenSpec.ofChange headerNamesWrong)

/-- 'beadrolllaw22.WireAsks': WHATEVER THE INPUT: true; the input reads as it did. -/
def wireAsksSpec : ChangeSpec := { name := "wireAsks", fn := fun _ => fun
  | [d1, d2] => { results := [.lit (.bool true)], args := [d1, d2] }
  | _ => none }
def wireAsksRow : OpenClaim := { program := "ytgndidjfjdaagaadoor", sum := "44c2e2c23be72aadb84323c6edddfe69bbecde0cbc0bda239f2414824b64959e", func := "beadroll/beadrolllaw22.WireAsks", spec := "wireAsks", unfollowed := true, recurses := true, named := ["beadroll/sha.k"], apart := false, laid := [("beadroll/sha.k", laid_beadroll_sha_k)] }
def WireAsksSaid : Prop := wireAsksRow.holds Tryd.pinned (OpenSpec.ofChange wireAsksSpec)

/-- ITS FALSE NEIGHBOUR: 'it returns false'. Refute it at one input. -/
def wireAsksWrong : ChangeSpec := { name := "wireAsks", fn := fun _ => fun
  | [d1, d2] => { results := [.lit (.bool false)], args := [d1, d2] }
  | _ => none }
def WireAsksWrongFalsely : Prop := wireAsksRow.holds Tryd.pinned (OpenSpec.ofChange wireAsksWrong)

/-- 'beadrolllaw22.WireNames': WHATEVER THE INPUT: true; the input reads as it did. -/
def wireNamesSpec : ChangeSpec := { name := "wireNames", fn := fun _ => fun
  | [] => { results := [.lit (.bool true)], args := [] }
  | _ => none }
def wireNamesRow : OpenClaim := { program := "ytgndidjfjdaagaadoor", sum := "44c2e2c23be72aadb84323c6edddfe69bbecde0cbc0bda239f2414824b64959e", func := "beadroll/beadrolllaw22.WireNames", spec := "wireNames", inPlace := ["internal/bytealg.MakeNoZero"], unfollowed := true, recurses := true, named := ["beadroll/sha.k"], apart := false, laid := [("beadroll/sha.k", laid_beadroll_sha_k)] }
def WireNamesSaid : Prop := wireNamesRow.holds Tryd.pinned (OpenSpec.ofChange wireNamesSpec)

/-- ITS FALSE NEIGHBOUR: 'it returns false'. Refute it at one input. -/
def wireNamesWrong : ChangeSpec := { name := "wireNames", fn := fun _ => fun
  | [] => { results := [.lit (.bool false)], args := [] }
  | _ => none }
def WireNamesWrongFalsely : Prop := wireNamesRow.holds Tryd.pinned (OpenSpec.ofChange wireNamesWrong)

/- THE SECOND FORM. 'bulk': how many values and letters a reading holds, each counted each time it is reached (what is shared counts as often as it is met; a slice's spare places count too). A statement '..UptoSaid' is the law's where the arguments, and the package variables that the reading takes, are together of bulk at most 1048576: NARROWER than '..Said'. Prove '..Said' where nothing that the law and all that it calls make is longer than what came in: it says more and counts as full. Else prove '..UptoSaid'. A law counts once. -/
mutual
def uptoBulk {H : Type} : DataW H → Nat
  | .lit (.string bytes) => bytes.length + 1
  | .lit _ => 1
  | .nil => 1
  | .ptr d => uptoBulk d + 1
  | .slice elems spare => uptoBulkAll elems + uptoBulkAll spare + 1
  | .agg parts => uptoBulkAll parts + 1
  | .iface _ d => uptoBulk d + 1
  | .map entries => uptoBulkEntries entries + 1
  | .held _ => 1
def uptoBulkAll {H : Type} : List (DataW H) → Nat
  | [] => 0
  | d :: r => uptoBulk d + uptoBulkAll r
def uptoBulkEntries {H : Type} : List (Lit × DataW H) → Nat
  | [] => 0
  | x :: r => uptoBulkEntry x + uptoBulkEntries r
def uptoBulkEntry {H : Type} : Lit × DataW H → Nat
  | (.string bytes, d) => bytes.length + uptoBulk d + 1
  | (_, d) => uptoBulk d + 1
 end
def uptoSmall : (H : Type) → List (DataW H) → Bool := fun _ ds => decide (uptoBulkAll ds ≤ 1048576)
def OpenSpec.upto (s : _root_.Go.ChangeSpec) : _root_.Go.OpenSpec := { _root_.Go.OpenSpec.ofChange s with cond := some uptoSmall }

/-- 'beadrolllaw03.TagTells', WHERE WHAT IT READS IS OF BULK AT MOST 1048576: true; the input reads as it did. -/
def tagTellsUptoRow : OpenClaim := { program := "ytgndidjfjdaagaadoor", sum := "44c2e2c23be72aadb84323c6edddfe69bbecde0cbc0bda239f2414824b64959e", func := "beadroll/beadrolllaw03.TagTells", spec := "tagTells", named := ["beadroll/sha.k"], apart := false, laid := [("beadroll/sha.k", laid_beadroll_sha_k)], narrowed := true }
def TagTellsUptoSaid : Prop := tagTellsUptoRow.holds Tryd.pinned (OpenSpec.upto tagTellsSpec)

/-- 'beadrolllaw22.WireAskBack', WHERE WHAT IT READS IS OF BULK AT MOST 1048576: true; the input reads as it did. -/
def wireAskBackUptoRow : OpenClaim := { program := "ytgndidjfjdaagaadoor", sum := "44c2e2c23be72aadb84323c6edddfe69bbecde0cbc0bda239f2414824b64959e", func := "beadroll/beadrolllaw22.WireAskBack", spec := "wireAskBack", inPlace := ["internal/bytealg.MakeNoZero"], unfollowed := true, recurses := true, named := ["beadroll/sha.k"], apart := false, laid := [("beadroll/sha.k", laid_beadroll_sha_k)], narrowed := true }
def WireAskBackUptoSaid : Prop := wireAskBackUptoRow.holds Tryd.pinned (OpenSpec.upto wireAskBackSpec)

/-- 'beadrolllaw11.TxSigns', WHERE WHAT IT READS IS OF BULK AT MOST 1048576: true; the input reads as it did. -/
def txSignsUptoRow : OpenClaim := { program := "ytgndidjfjdaagaadoor", sum := "44c2e2c23be72aadb84323c6edddfe69bbecde0cbc0bda239f2414824b64959e", func := "beadroll/beadrolllaw11.TxSigns", spec := "txSigns", unfollowed := true, recurses := true, named := ["beadroll/sha.k"], apart := false, laid := [("beadroll/sha.k", laid_beadroll_sha_k)], narrowed := true }
def TxSignsUptoSaid : Prop := txSignsUptoRow.holds Tryd.pinned (OpenSpec.upto txSignsSpec)

/-- 'beadrolllaw22.WireReplyBack', WHERE WHAT IT READS IS OF BULK AT MOST 1048576: true; the input reads as it did. -/
def wireReplyBackUptoRow : OpenClaim := { program := "ytgndidjfjdaagaadoor", sum := "44c2e2c23be72aadb84323c6edddfe69bbecde0cbc0bda239f2414824b64959e", func := "beadroll/beadrolllaw22.WireReplyBack", spec := "wireReplyBack", inPlace := ["internal/bytealg.MakeNoZero"], unfollowed := true, recurses := true, named := ["beadroll/sha.k"], apart := false, laid := [("beadroll/sha.k", laid_beadroll_sha_k)], narrowed := true }
def WireReplyBackUptoSaid : Prop := wireReplyBackUptoRow.holds Tryd.pinned (OpenSpec.upto wireReplyBackSpec)

/-- 'beadrolllaw11.TxTells', WHERE WHAT IT READS IS OF BULK AT MOST 1048576: true; the input reads as it did. -/
def txTellsUptoRow : OpenClaim := { program := "ytgndidjfjdaagaadoor", sum := "44c2e2c23be72aadb84323c6edddfe69bbecde0cbc0bda239f2414824b64959e", func := "beadroll/beadrolllaw11.TxTells", spec := "txTells", unfollowed := true, recurses := true, named := ["beadroll/sha.k"], apart := false, laid := [("beadroll/sha.k", laid_beadroll_sha_k)], narrowed := true }
def TxTellsUptoSaid : Prop := txTellsUptoRow.holds Tryd.pinned (OpenSpec.upto txTellsSpec)

/-- 'beadrolllaw03.TagBack', WHERE WHAT IT READS IS OF BULK AT MOST 1048576: true; the input reads as it did. -/
def tagBackUptoRow : OpenClaim := { program := "ytgndidjfjdaagaadoor", sum := "44c2e2c23be72aadb84323c6edddfe69bbecde0cbc0bda239f2414824b64959e", func := "beadroll/beadrolllaw03.TagBack", spec := "tagBack", unfollowed := true, recurses := true, named := ["beadroll/sha.k"], apart := false, laid := [("beadroll/sha.k", laid_beadroll_sha_k)], narrowed := true }
def TagBackUptoSaid : Prop := tagBackUptoRow.holds Tryd.pinned (OpenSpec.upto tagBackSpec)

/-- 'beadrolllaw03.TagNames', WHERE WHAT IT READS IS OF BULK AT MOST 1048576: true; the input reads as it did. -/
def tagNamesUptoRow : OpenClaim := { program := "ytgndidjfjdaagaadoor", sum := "44c2e2c23be72aadb84323c6edddfe69bbecde0cbc0bda239f2414824b64959e", func := "beadroll/beadrolllaw03.TagNames", spec := "tagNames", unfollowed := true, recurses := true, named := ["beadroll/sha.k"], apart := false, laid := [("beadroll/sha.k", laid_beadroll_sha_k)], narrowed := true }
def TagNamesUptoSaid : Prop := tagNamesUptoRow.holds Tryd.pinned (OpenSpec.upto tagNamesSpec)

/-- 'beadrolllaw14.HeaderTells', WHERE WHAT IT READS IS OF BULK AT MOST 1048576: true; the input reads as it did. -/
def headerTellsUptoRow : OpenClaim := { program := "ytgndidjfjdaagaadoor", sum := "44c2e2c23be72aadb84323c6edddfe69bbecde0cbc0bda239f2414824b64959e", func := "beadroll/beadrolllaw14.HeaderTells", spec := "headerTells", inPlace := ["internal/bytealg.MakeNoZero"], named := ["beadroll/sha.k"], apart := false, laid := [("beadroll/sha.k", laid_beadroll_sha_k)], narrowed := true }
def HeaderTellsUptoSaid : Prop := headerTellsUptoRow.holds Tryd.pinned (OpenSpec.upto headerTellsSpec)

/-- 'beadrolllaw14.HeaderOne', WHERE WHAT IT READS IS OF BULK AT MOST 1048576: true; the input reads as it did. -/
def headerOneUptoRow : OpenClaim := { program := "ytgndidjfjdaagaadoor", sum := "44c2e2c23be72aadb84323c6edddfe69bbecde0cbc0bda239f2414824b64959e", func := "beadroll/beadrolllaw14.HeaderOne", spec := "headerOne", inPlace := ["internal/bytealg.MakeNoZero"], named := ["beadroll/sha.k"], apart := false, laid := [("beadroll/sha.k", laid_beadroll_sha_k)], narrowed := true }
def HeaderOneUptoSaid : Prop := headerOneUptoRow.holds Tryd.pinned (OpenSpec.upto headerOneSpec)

/-- 'beadrolllaw12.ReceiptNames', WHERE WHAT IT READS IS OF BULK AT MOST 1048576: true; the input reads as it did. -/
def receiptNamesUptoRow : OpenClaim := { program := "ytgndidjfjdaagaadoor", sum := "44c2e2c23be72aadb84323c6edddfe69bbecde0cbc0bda239f2414824b64959e", func := "beadroll/beadrolllaw12.ReceiptNames", spec := "receiptNames", named := ["beadroll/sha.k"], apart := false, laid := [("beadroll/sha.k", laid_beadroll_sha_k)], narrowed := true }
def ReceiptNamesUptoSaid : Prop := receiptNamesUptoRow.holds Tryd.pinned (OpenSpec.upto receiptNamesSpec)

/-- 'beadrolllaw12.ReceiptTells', WHERE WHAT IT READS IS OF BULK AT MOST 1048576: true; the input reads as it did. -/
def receiptTellsUptoRow : OpenClaim := { program := "ytgndidjfjdaagaadoor", sum := "44c2e2c23be72aadb84323c6edddfe69bbecde0cbc0bda239f2414824b64959e", func := "beadroll/beadrolllaw12.ReceiptTells", spec := "receiptTells", named := ["beadroll/sha.k"], apart := false, laid := [("beadroll/sha.k", laid_beadroll_sha_k)], narrowed := true }
def ReceiptTellsUptoSaid : Prop := receiptTellsUptoRow.holds Tryd.pinned (OpenSpec.upto receiptTellsSpec)

/-- 'beadrolllaw11.TxReads', WHERE WHAT IT READS IS OF BULK AT MOST 1048576: true; the input reads as it did. -/
def txReadsUptoRow : OpenClaim := { program := "ytgndidjfjdaagaadoor", sum := "44c2e2c23be72aadb84323c6edddfe69bbecde0cbc0bda239f2414824b64959e", func := "beadroll/beadrolllaw11.TxReads", spec := "txReads", unfollowed := true, recurses := true, named := ["beadroll/sha.k"], apart := false, laid := [("beadroll/sha.k", laid_beadroll_sha_k)], narrowed := true }
def TxReadsUptoSaid : Prop := txReadsUptoRow.holds Tryd.pinned (OpenSpec.upto txReadsSpec)

/-- 'beadrolllaw11.TxBack', WHERE WHAT IT READS IS OF BULK AT MOST 1048576: true; the input reads as it did. -/
def txBackUptoRow : OpenClaim := { program := "ytgndidjfjdaagaadoor", sum := "44c2e2c23be72aadb84323c6edddfe69bbecde0cbc0bda239f2414824b64959e", func := "beadroll/beadrolllaw11.TxBack", spec := "txBack", unfollowed := true, recurses := true, named := ["beadroll/sha.k"], apart := false, laid := [("beadroll/sha.k", laid_beadroll_sha_k)], narrowed := true }
def TxBackUptoSaid : Prop := txBackUptoRow.holds Tryd.pinned (OpenSpec.upto txBackSpec)

/-- 'beadrolllaw11.TxNames', WHERE WHAT IT READS IS OF BULK AT MOST 1048576: true; the input reads as it did. -/
def txNamesUptoRow : OpenClaim := { program := "ytgndidjfjdaagaadoor", sum := "44c2e2c23be72aadb84323c6edddfe69bbecde0cbc0bda239f2414824b64959e", func := "beadroll/beadrolllaw11.TxNames", spec := "txNames", unfollowed := true, recurses := true, named := ["beadroll/sha.k"], apart := false, laid := [("beadroll/sha.k", laid_beadroll_sha_k)], narrowed := true }
def TxNamesUptoSaid : Prop := txNamesUptoRow.holds Tryd.pinned (OpenSpec.upto txNamesSpec)

/-- 'beadrolllaw14.HeaderNames', WHERE WHAT IT READS IS OF BULK AT MOST 1048576: true; the input reads as it did. -/
def headerNamesUptoRow : OpenClaim := { program := "ytgndidjfjdaagaadoor", sum := "44c2e2c23be72aadb84323c6edddfe69bbecde0cbc0bda239f2414824b64959e", func := "beadroll/beadrolllaw14.HeaderNames", spec := "headerNames", inPlace := ["internal/bytealg.MakeNoZero"], named := ["beadroll/sha.k"], apart := false, laid := [("beadroll/sha.k", laid_beadroll_sha_k)], narrowed := true }
def HeaderNamesUptoSaid : Prop := headerNamesUptoRow.holds Tryd.pinned (OpenSpec.upto headerNamesSpec)

/-- 'beadrolllaw22.WireAsks', WHERE WHAT IT READS IS OF BULK AT MOST 1048576: true; the input reads as it did. -/
def wireAsksUptoRow : OpenClaim := { program := "ytgndidjfjdaagaadoor", sum := "44c2e2c23be72aadb84323c6edddfe69bbecde0cbc0bda239f2414824b64959e", func := "beadroll/beadrolllaw22.WireAsks", spec := "wireAsks", unfollowed := true, recurses := true, named := ["beadroll/sha.k"], apart := false, laid := [("beadroll/sha.k", laid_beadroll_sha_k)], narrowed := true }
def WireAsksUptoSaid : Prop := wireAsksUptoRow.holds Tryd.pinned (OpenSpec.upto wireAsksSpec)

/-- 'beadrolllaw22.WireNames', WHERE WHAT IT READS IS OF BULK AT MOST 1048576: true; the input reads as it did. -/
def wireNamesUptoRow : OpenClaim := { program := "ytgndidjfjdaagaadoor", sum := "44c2e2c23be72aadb84323c6edddfe69bbecde0cbc0bda239f2414824b64959e", func := "beadroll/beadrolllaw22.WireNames", spec := "wireNames", inPlace := ["internal/bytealg.MakeNoZero"], unfollowed := true, recurses := true, named := ["beadroll/sha.k"], apart := false, laid := [("beadroll/sha.k", laid_beadroll_sha_k)], narrowed := true }
def WireNamesUptoSaid : Prop := wireNamesUptoRow.holds Tryd.pinned (OpenSpec.upto wireNamesSpec)

end Rows
end Go.Proofs.YtgndidjfjdaagaaDoor
