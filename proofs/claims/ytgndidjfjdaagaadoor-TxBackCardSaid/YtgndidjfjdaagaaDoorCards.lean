/-
  DERIVED. GIVEN WITH THE SEED: THE CARDS: each row of YtgndidjfjdaagaaDoorRows.lean that lists a variable, with what it lists TIED to the program's text (the seventh form; the later family's looks); each row that meets fmt, with fmt's text TOLD by the authors' own Lean function (tested against real Go, not proved from fmt's source: count such statements apart). THE CARD IS WHAT COUNTS. Prove the row's statement (the work); the ties are given (YtgndidjfjdaagaaDoorTie.lean); close each card by the builder's one call (the guide's Derived/Test/ToyasCard.lean, 'card_holds'). Laid BY PROGRAM, IN A SANDBOX (cutbox-door.mjs). By AI agents, Wed Nov 11 2026. No macro, syntax, notation, axiom, sorry.
-/
import Derived.Test.YtgndidjfjdaagaaDoorRows
import GoSem.ClaimSeven
namespace Go.Proofs.YtgndidjfjdaagaaDoor
namespace Rows

/-- THE TIED CARD OF 'beadrolllaw03.TagTells'. -/
def tagTellsCard : Claim7 := { stood := { row := tagTellsRow, standIns := [], harness := (true, "146672532a24c381797dcf96a728bb0d04c8d44dd2a7ca82edb5526306f57959"), looks := true }, kinds := [], alts := [], laidByText := true, laidKinds := [.data], laidTests := true, laidLooks := .later }
def TagTellsCardSaid : Prop := Claim7.holds Tryd.pinned (.plain (OpenSpec.ofChange tagTellsSpec)) tagTellsCard

/-- THE TIED CARD OF 'beadrolllaw22.WireAskBack'. -/
def wireAskBackCard : Claim7 := { stood := { row := wireAskBackRow, standIns := [], harness := (true, "146672532a24c381797dcf96a728bb0d04c8d44dd2a7ca82edb5526306f57959"), looks := true }, kinds := [], alts := [], laidByText := true, laidKinds := [.data], laidTests := true, laidLooks := .later }
def WireAskBackCardSaid : Prop := Claim7.holds Tryd.pinned (.plain (OpenSpec.ofChange wireAskBackSpec)) wireAskBackCard

/-- THE TIED CARD OF 'beadrolllaw11.TxSigns'. -/
def txSignsCard : Claim7 := { stood := { row := txSignsRow, standIns := [], harness := (true, "146672532a24c381797dcf96a728bb0d04c8d44dd2a7ca82edb5526306f57959"), looks := true }, kinds := [], alts := [], laidByText := true, laidKinds := [.data], laidTests := true, laidLooks := .later }
def TxSignsCardSaid : Prop := Claim7.holds Tryd.pinned (.plain (OpenSpec.ofChange txSignsSpec)) txSignsCard

/-- THE TIED CARD OF 'beadrolllaw22.WireReplyBack'. -/
def wireReplyBackCard : Claim7 := { stood := { row := wireReplyBackRow, standIns := [], harness := (true, "146672532a24c381797dcf96a728bb0d04c8d44dd2a7ca82edb5526306f57959"), looks := true }, kinds := [], alts := [], laidByText := true, laidKinds := [.data], laidTests := true, laidLooks := .later }
def WireReplyBackCardSaid : Prop := Claim7.holds Tryd.pinned (.plain (OpenSpec.ofChange wireReplyBackSpec)) wireReplyBackCard

/-- THE TIED CARD OF 'beadrolllaw11.TxTells'. -/
def txTellsCard : Claim7 := { stood := { row := txTellsRow, standIns := [], harness := (true, "146672532a24c381797dcf96a728bb0d04c8d44dd2a7ca82edb5526306f57959"), looks := true }, kinds := [], alts := [], laidByText := true, laidKinds := [.data], laidTests := true, laidLooks := .later }
def TxTellsCardSaid : Prop := Claim7.holds Tryd.pinned (.plain (OpenSpec.ofChange txTellsSpec)) txTellsCard

/-- THE TIED CARD OF 'beadrolllaw03.TagBack'. -/
def tagBackCard : Claim7 := { stood := { row := tagBackRow, standIns := [], harness := (true, "146672532a24c381797dcf96a728bb0d04c8d44dd2a7ca82edb5526306f57959"), looks := true }, kinds := [], alts := [], laidByText := true, laidKinds := [.data], laidTests := true, laidLooks := .later }
def TagBackCardSaid : Prop := Claim7.holds Tryd.pinned (.plain (OpenSpec.ofChange tagBackSpec)) tagBackCard

/-- THE TIED CARD OF 'beadrolllaw03.TagNames'. -/
def tagNamesCard : Claim7 := { stood := { row := tagNamesRow, standIns := [], harness := (true, "146672532a24c381797dcf96a728bb0d04c8d44dd2a7ca82edb5526306f57959"), looks := true }, kinds := [], alts := [], laidByText := true, laidKinds := [.data], laidTests := true, laidLooks := .later }
def TagNamesCardSaid : Prop := Claim7.holds Tryd.pinned (.plain (OpenSpec.ofChange tagNamesSpec)) tagNamesCard

/-- THE TIED CARD OF 'beadrolllaw14.HeaderTells'. -/
def headerTellsCard : Claim7 := { stood := { row := headerTellsRow, standIns := [], harness := (true, "146672532a24c381797dcf96a728bb0d04c8d44dd2a7ca82edb5526306f57959"), looks := true }, kinds := [], alts := [], laidByText := true, laidKinds := [.data], laidTests := true, laidLooks := .later }
def HeaderTellsCardSaid : Prop := Claim7.holds Tryd.pinned (.plain (OpenSpec.ofChange headerTellsSpec)) headerTellsCard

/-- THE TIED CARD OF 'beadrolllaw14.HeaderOne'. -/
def headerOneCard : Claim7 := { stood := { row := headerOneRow, standIns := [], harness := (true, "146672532a24c381797dcf96a728bb0d04c8d44dd2a7ca82edb5526306f57959"), looks := true }, kinds := [], alts := [], laidByText := true, laidKinds := [.data], laidTests := true, laidLooks := .later }
def HeaderOneCardSaid : Prop := Claim7.holds Tryd.pinned (.plain (OpenSpec.ofChange headerOneSpec)) headerOneCard

/-- THE TIED CARD OF 'beadrolllaw12.ReceiptNames'. -/
def receiptNamesCard : Claim7 := { stood := { row := receiptNamesRow, standIns := [], harness := (true, "146672532a24c381797dcf96a728bb0d04c8d44dd2a7ca82edb5526306f57959"), looks := true }, kinds := [], alts := [], laidByText := true, laidKinds := [.data], laidTests := true, laidLooks := .later }
def ReceiptNamesCardSaid : Prop := Claim7.holds Tryd.pinned (.plain (OpenSpec.ofChange receiptNamesSpec)) receiptNamesCard

/-- THE TIED CARD OF 'beadrolllaw12.ReceiptTells'. -/
def receiptTellsCard : Claim7 := { stood := { row := receiptTellsRow, standIns := [], harness := (true, "146672532a24c381797dcf96a728bb0d04c8d44dd2a7ca82edb5526306f57959"), looks := true }, kinds := [], alts := [], laidByText := true, laidKinds := [.data], laidTests := true, laidLooks := .later }
def ReceiptTellsCardSaid : Prop := Claim7.holds Tryd.pinned (.plain (OpenSpec.ofChange receiptTellsSpec)) receiptTellsCard

/-- THE TIED CARD OF 'beadrolllaw11.TxReads'. -/
def txReadsCard : Claim7 := { stood := { row := txReadsRow, standIns := [], harness := (true, "146672532a24c381797dcf96a728bb0d04c8d44dd2a7ca82edb5526306f57959"), looks := true }, kinds := [], alts := [], laidByText := true, laidKinds := [.data], laidTests := true, laidLooks := .later }
def TxReadsCardSaid : Prop := Claim7.holds Tryd.pinned (.plain (OpenSpec.ofChange txReadsSpec)) txReadsCard

/-- THE TIED CARD OF 'beadrolllaw11.TxBack'. -/
def txBackCard : Claim7 := { stood := { row := txBackRow, standIns := [], harness := (true, "146672532a24c381797dcf96a728bb0d04c8d44dd2a7ca82edb5526306f57959"), looks := true }, kinds := [], alts := [], laidByText := true, laidKinds := [.data], laidTests := true, laidLooks := .later }
def TxBackCardSaid : Prop := Claim7.holds Tryd.pinned (.plain (OpenSpec.ofChange txBackSpec)) txBackCard

/-- THE TIED CARD OF 'beadrolllaw11.TxNames'. -/
def txNamesCard : Claim7 := { stood := { row := txNamesRow, standIns := [], harness := (true, "146672532a24c381797dcf96a728bb0d04c8d44dd2a7ca82edb5526306f57959"), looks := true }, kinds := [], alts := [], laidByText := true, laidKinds := [.data], laidTests := true, laidLooks := .later }
def TxNamesCardSaid : Prop := Claim7.holds Tryd.pinned (.plain (OpenSpec.ofChange txNamesSpec)) txNamesCard

/-- THE TIED CARD OF 'beadrolllaw14.HeaderNames'. -/
def headerNamesCard : Claim7 := { stood := { row := headerNamesRow, standIns := [], harness := (true, "146672532a24c381797dcf96a728bb0d04c8d44dd2a7ca82edb5526306f57959"), looks := true }, kinds := [], alts := [], laidByText := true, laidKinds := [.data], laidTests := true, laidLooks := .later }
def HeaderNamesCardSaid : Prop := Claim7.holds Tryd.pinned (.plain (OpenSpec.ofChange headerNamesSpec)) headerNamesCard

/-- THE TIED CARD OF 'beadrolllaw22.WireAsks'. -/
def wireAsksCard : Claim7 := { stood := { row := wireAsksRow, standIns := [], harness := (true, "146672532a24c381797dcf96a728bb0d04c8d44dd2a7ca82edb5526306f57959"), looks := true }, kinds := [], alts := [], laidByText := true, laidKinds := [.data], laidTests := true, laidLooks := .later }
def WireAsksCardSaid : Prop := Claim7.holds Tryd.pinned (.plain (OpenSpec.ofChange wireAsksSpec)) wireAsksCard

/-- THE TIED CARD OF 'beadrolllaw22.WireNames'. -/
def wireNamesCard : Claim7 := { stood := { row := wireNamesRow, standIns := [], harness := (true, "146672532a24c381797dcf96a728bb0d04c8d44dd2a7ca82edb5526306f57959"), looks := true }, kinds := [], alts := [], laidByText := true, laidKinds := [.data], laidTests := true, laidLooks := .later }
def WireNamesCardSaid : Prop := Claim7.holds Tryd.pinned (.plain (OpenSpec.ofChange wireNamesSpec)) wireNamesCard

/-- THE SECOND FORM's CARD OF 'beadrolllaw03.TagTells'. -/
def tagTellsUptoCard : Claim7 := { stood := { row := tagTellsUptoRow, standIns := [], harness := (true, "146672532a24c381797dcf96a728bb0d04c8d44dd2a7ca82edb5526306f57959"), looks := true }, kinds := [], alts := [], laidByText := true, laidKinds := [.data], laidTests := true, laidLooks := .later }
def TagTellsUptoCardSaid : Prop := Claim7.holds Tryd.pinned (.plain (OpenSpec.upto tagTellsSpec)) tagTellsUptoCard

/-- THE SECOND FORM's CARD OF 'beadrolllaw22.WireAskBack'. -/
def wireAskBackUptoCard : Claim7 := { stood := { row := wireAskBackUptoRow, standIns := [], harness := (true, "146672532a24c381797dcf96a728bb0d04c8d44dd2a7ca82edb5526306f57959"), looks := true }, kinds := [], alts := [], laidByText := true, laidKinds := [.data], laidTests := true, laidLooks := .later }
def WireAskBackUptoCardSaid : Prop := Claim7.holds Tryd.pinned (.plain (OpenSpec.upto wireAskBackSpec)) wireAskBackUptoCard

/-- THE SECOND FORM's CARD OF 'beadrolllaw11.TxSigns'. -/
def txSignsUptoCard : Claim7 := { stood := { row := txSignsUptoRow, standIns := [], harness := (true, "146672532a24c381797dcf96a728bb0d04c8d44dd2a7ca82edb5526306f57959"), looks := true }, kinds := [], alts := [], laidByText := true, laidKinds := [.data], laidTests := true, laidLooks := .later }
def TxSignsUptoCardSaid : Prop := Claim7.holds Tryd.pinned (.plain (OpenSpec.upto txSignsSpec)) txSignsUptoCard

/-- THE SECOND FORM's CARD OF 'beadrolllaw22.WireReplyBack'. -/
def wireReplyBackUptoCard : Claim7 := { stood := { row := wireReplyBackUptoRow, standIns := [], harness := (true, "146672532a24c381797dcf96a728bb0d04c8d44dd2a7ca82edb5526306f57959"), looks := true }, kinds := [], alts := [], laidByText := true, laidKinds := [.data], laidTests := true, laidLooks := .later }
def WireReplyBackUptoCardSaid : Prop := Claim7.holds Tryd.pinned (.plain (OpenSpec.upto wireReplyBackSpec)) wireReplyBackUptoCard

/-- THE SECOND FORM's CARD OF 'beadrolllaw11.TxTells'. -/
def txTellsUptoCard : Claim7 := { stood := { row := txTellsUptoRow, standIns := [], harness := (true, "146672532a24c381797dcf96a728bb0d04c8d44dd2a7ca82edb5526306f57959"), looks := true }, kinds := [], alts := [], laidByText := true, laidKinds := [.data], laidTests := true, laidLooks := .later }
def TxTellsUptoCardSaid : Prop := Claim7.holds Tryd.pinned (.plain (OpenSpec.upto txTellsSpec)) txTellsUptoCard

/-- THE SECOND FORM's CARD OF 'beadrolllaw03.TagBack'. -/
def tagBackUptoCard : Claim7 := { stood := { row := tagBackUptoRow, standIns := [], harness := (true, "146672532a24c381797dcf96a728bb0d04c8d44dd2a7ca82edb5526306f57959"), looks := true }, kinds := [], alts := [], laidByText := true, laidKinds := [.data], laidTests := true, laidLooks := .later }
def TagBackUptoCardSaid : Prop := Claim7.holds Tryd.pinned (.plain (OpenSpec.upto tagBackSpec)) tagBackUptoCard

/-- THE SECOND FORM's CARD OF 'beadrolllaw03.TagNames'. -/
def tagNamesUptoCard : Claim7 := { stood := { row := tagNamesUptoRow, standIns := [], harness := (true, "146672532a24c381797dcf96a728bb0d04c8d44dd2a7ca82edb5526306f57959"), looks := true }, kinds := [], alts := [], laidByText := true, laidKinds := [.data], laidTests := true, laidLooks := .later }
def TagNamesUptoCardSaid : Prop := Claim7.holds Tryd.pinned (.plain (OpenSpec.upto tagNamesSpec)) tagNamesUptoCard

/-- THE SECOND FORM's CARD OF 'beadrolllaw14.HeaderTells'. -/
def headerTellsUptoCard : Claim7 := { stood := { row := headerTellsUptoRow, standIns := [], harness := (true, "146672532a24c381797dcf96a728bb0d04c8d44dd2a7ca82edb5526306f57959"), looks := true }, kinds := [], alts := [], laidByText := true, laidKinds := [.data], laidTests := true, laidLooks := .later }
def HeaderTellsUptoCardSaid : Prop := Claim7.holds Tryd.pinned (.plain (OpenSpec.upto headerTellsSpec)) headerTellsUptoCard

/-- THE SECOND FORM's CARD OF 'beadrolllaw14.HeaderOne'. -/
def headerOneUptoCard : Claim7 := { stood := { row := headerOneUptoRow, standIns := [], harness := (true, "146672532a24c381797dcf96a728bb0d04c8d44dd2a7ca82edb5526306f57959"), looks := true }, kinds := [], alts := [], laidByText := true, laidKinds := [.data], laidTests := true, laidLooks := .later }
def HeaderOneUptoCardSaid : Prop := Claim7.holds Tryd.pinned (.plain (OpenSpec.upto headerOneSpec)) headerOneUptoCard

/-- THE SECOND FORM's CARD OF 'beadrolllaw12.ReceiptNames'. -/
def receiptNamesUptoCard : Claim7 := { stood := { row := receiptNamesUptoRow, standIns := [], harness := (true, "146672532a24c381797dcf96a728bb0d04c8d44dd2a7ca82edb5526306f57959"), looks := true }, kinds := [], alts := [], laidByText := true, laidKinds := [.data], laidTests := true, laidLooks := .later }
def ReceiptNamesUptoCardSaid : Prop := Claim7.holds Tryd.pinned (.plain (OpenSpec.upto receiptNamesSpec)) receiptNamesUptoCard

/-- THE SECOND FORM's CARD OF 'beadrolllaw12.ReceiptTells'. -/
def receiptTellsUptoCard : Claim7 := { stood := { row := receiptTellsUptoRow, standIns := [], harness := (true, "146672532a24c381797dcf96a728bb0d04c8d44dd2a7ca82edb5526306f57959"), looks := true }, kinds := [], alts := [], laidByText := true, laidKinds := [.data], laidTests := true, laidLooks := .later }
def ReceiptTellsUptoCardSaid : Prop := Claim7.holds Tryd.pinned (.plain (OpenSpec.upto receiptTellsSpec)) receiptTellsUptoCard

/-- THE SECOND FORM's CARD OF 'beadrolllaw11.TxReads'. -/
def txReadsUptoCard : Claim7 := { stood := { row := txReadsUptoRow, standIns := [], harness := (true, "146672532a24c381797dcf96a728bb0d04c8d44dd2a7ca82edb5526306f57959"), looks := true }, kinds := [], alts := [], laidByText := true, laidKinds := [.data], laidTests := true, laidLooks := .later }
def TxReadsUptoCardSaid : Prop := Claim7.holds Tryd.pinned (.plain (OpenSpec.upto txReadsSpec)) txReadsUptoCard

/-- THE SECOND FORM's CARD OF 'beadrolllaw11.TxBack'. -/
def txBackUptoCard : Claim7 := { stood := { row := txBackUptoRow, standIns := [], harness := (true, "146672532a24c381797dcf96a728bb0d04c8d44dd2a7ca82edb5526306f57959"), looks := true }, kinds := [], alts := [], laidByText := true, laidKinds := [.data], laidTests := true, laidLooks := .later }
def TxBackUptoCardSaid : Prop := Claim7.holds Tryd.pinned (.plain (OpenSpec.upto txBackSpec)) txBackUptoCard

/-- THE SECOND FORM's CARD OF 'beadrolllaw11.TxNames'. -/
def txNamesUptoCard : Claim7 := { stood := { row := txNamesUptoRow, standIns := [], harness := (true, "146672532a24c381797dcf96a728bb0d04c8d44dd2a7ca82edb5526306f57959"), looks := true }, kinds := [], alts := [], laidByText := true, laidKinds := [.data], laidTests := true, laidLooks := .later }
def TxNamesUptoCardSaid : Prop := Claim7.holds Tryd.pinned (.plain (OpenSpec.upto txNamesSpec)) txNamesUptoCard

/-- THE SECOND FORM's CARD OF 'beadrolllaw14.HeaderNames'. -/
def headerNamesUptoCard : Claim7 := { stood := { row := headerNamesUptoRow, standIns := [], harness := (true, "146672532a24c381797dcf96a728bb0d04c8d44dd2a7ca82edb5526306f57959"), looks := true }, kinds := [], alts := [], laidByText := true, laidKinds := [.data], laidTests := true, laidLooks := .later }
def HeaderNamesUptoCardSaid : Prop := Claim7.holds Tryd.pinned (.plain (OpenSpec.upto headerNamesSpec)) headerNamesUptoCard

/-- THE SECOND FORM's CARD OF 'beadrolllaw22.WireAsks'. -/
def wireAsksUptoCard : Claim7 := { stood := { row := wireAsksUptoRow, standIns := [], harness := (true, "146672532a24c381797dcf96a728bb0d04c8d44dd2a7ca82edb5526306f57959"), looks := true }, kinds := [], alts := [], laidByText := true, laidKinds := [.data], laidTests := true, laidLooks := .later }
def WireAsksUptoCardSaid : Prop := Claim7.holds Tryd.pinned (.plain (OpenSpec.upto wireAsksSpec)) wireAsksUptoCard

/-- THE SECOND FORM's CARD OF 'beadrolllaw22.WireNames'. -/
def wireNamesUptoCard : Claim7 := { stood := { row := wireNamesUptoRow, standIns := [], harness := (true, "146672532a24c381797dcf96a728bb0d04c8d44dd2a7ca82edb5526306f57959"), looks := true }, kinds := [], alts := [], laidByText := true, laidKinds := [.data], laidTests := true, laidLooks := .later }
def WireNamesUptoCardSaid : Prop := Claim7.holds Tryd.pinned (.plain (OpenSpec.upto wireNamesSpec)) wireNamesUptoCard
end Rows
end Go.Proofs.YtgndidjfjdaagaaDoor
