/-
  DERIVED. GIVEN WITH THE SEED: THE CARDS: each row of YtonbafpfcmlnlaaDoorRows.lean that lists a variable, with what it lists TIED to the program's text (the seventh form; the later family's looks); each row that meets fmt, with fmt's text TOLD by the authors' own Lean function (tested against real Go, not proved from fmt's source: count such statements apart). THE CARD IS WHAT COUNTS. Prove the row's statement (the work); the ties are given (YtonbafpfcmlnlaaDoorTie.lean); close each card by the builder's one call (the guide's Derived/Test/ToyasCard.lean, 'card_holds'). Laid BY PROGRAM, IN A SANDBOX (cutbox-door.mjs). By AI agents, Wed Nov 11 2026. No macro, syntax, notation, axiom, sorry.
-/
import Derived.Test.YtonbafpfcmlnlaaDoorRows
import GoSem.ClaimSeven
namespace Go.Proofs.YtonbafpfcmlnlaaDoor
namespace Rows

/-- THE TIED CARD OF 'flumelaw12.TunnelOnce'. -/
def tunnelOnceCard : Claim7 := { stood := { row := tunnelOnceRow, standIns := [], harness := (true, "7f068b84fedb692dbca89e4166dc3c29cdc60f97a8012df1147d4679e28305a5"), looks := false }, kinds := [], alts := [], laidByText := true, laidKinds := [.data], laidTests := true, laidLooks := .later }
def TunnelOnceCardSaid : Prop := Claim7.holds Tryd.pinned (.plain (OpenSpec.ofChange tunnelOnceSpec)) tunnelOnceCard

/-- THE TIED CARD OF 'flumelaw12.TunnelBounds'. -/
def tunnelBoundsCard : Claim7 := { stood := { row := tunnelBoundsRow, standIns := [], harness := (true, "7f068b84fedb692dbca89e4166dc3c29cdc60f97a8012df1147d4679e28305a5"), looks := false }, kinds := [], alts := [], laidByText := true, laidKinds := [.data], laidTests := true, laidLooks := .later }
def TunnelBoundsCardSaid : Prop := Claim7.holds Tryd.pinned (.plain (OpenSpec.ofChange tunnelBoundsSpec)) tunnelBoundsCard

/-- THE TIED CARD OF 'flumelaw12.TunnelSettles'. -/
def tunnelSettlesCard : Claim7 := { stood := { row := tunnelSettlesRow, standIns := [], harness := (true, "7f068b84fedb692dbca89e4166dc3c29cdc60f97a8012df1147d4679e28305a5"), looks := false }, kinds := [], alts := [], laidByText := true, laidKinds := [.data], laidTests := true, laidLooks := .later }
def TunnelSettlesCardSaid : Prop := Claim7.holds Tryd.pinned (.plain (OpenSpec.ofChange tunnelSettlesSpec)) tunnelSettlesCard

/-- THE TIED CARD OF 'flumelaw12.TunnelSame'. -/
def tunnelSameCard : Claim7 := { stood := { row := tunnelSameRow, standIns := [], harness := (true, "7f068b84fedb692dbca89e4166dc3c29cdc60f97a8012df1147d4679e28305a5"), looks := false }, kinds := [], alts := [], laidByText := true, laidKinds := [.data], laidTests := true, laidLooks := .later }
def TunnelSameCardSaid : Prop := Claim7.holds Tryd.pinned (.plain (OpenSpec.ofChange tunnelSameSpec)) tunnelSameCard

/-- THE TIED CARD OF 'flumelaw11.DedupLess'. -/
def dedupLessCard : Claim7 := { stood := { row := dedupLessRow, standIns := [], harness := (true, "7f068b84fedb692dbca89e4166dc3c29cdc60f97a8012df1147d4679e28305a5"), looks := false }, kinds := [], alts := [], laidByText := true, laidKinds := [.data, .data], laidTests := true, laidLooks := .later }
def DedupLessCardSaid : Prop := Claim7.holds Tryd.pinned (.plain (OpenSpec.ofChange dedupLessSpec)) dedupLessCard

/-- THE TIED CARD OF 'flumelaw11.DedupLets'. -/
def dedupLetsCard : Claim7 := { stood := { row := dedupLetsRow, standIns := [], harness := (true, "7f068b84fedb692dbca89e4166dc3c29cdc60f97a8012df1147d4679e28305a5"), looks := false }, kinds := [], alts := [], laidByText := true, laidKinds := [.data, .data], laidTests := true, laidLooks := .later }
def DedupLetsCardSaid : Prop := Claim7.holds Tryd.pinned (.plain (OpenSpec.ofChange dedupLetsSpec)) dedupLetsCard

/-- THE TIED CARD OF 'flumelaw11.DedupBounds'. -/
def dedupBoundsCard : Claim7 := { stood := { row := dedupBoundsRow, standIns := [], harness := (true, "7f068b84fedb692dbca89e4166dc3c29cdc60f97a8012df1147d4679e28305a5"), looks := false }, kinds := [], alts := [], laidByText := true, laidKinds := [.data, .data], laidTests := true, laidLooks := .later }
def DedupBoundsCardSaid : Prop := Claim7.holds Tryd.pinned (.plain (OpenSpec.ofChange dedupBoundsSpec)) dedupBoundsCard

/-- THE TIED CARD OF 'flumelaw11.DedupNobody'. -/
def dedupNobodyCard : Claim7 := { stood := { row := dedupNobodyRow, standIns := [], harness := (true, "7f068b84fedb692dbca89e4166dc3c29cdc60f97a8012df1147d4679e28305a5"), looks := false }, kinds := [], alts := [], laidByText := true, laidKinds := [.data, .data], laidTests := true, laidLooks := .later }
def DedupNobodyCardSaid : Prop := Claim7.holds Tryd.pinned (.plain (OpenSpec.ofChange dedupNobodySpec)) dedupNobodyCard

/-- THE TIED CARD OF 'flumelaw11.DedupAgain'. -/
def dedupAgainCard : Claim7 := { stood := { row := dedupAgainRow, standIns := [], harness := (true, "7f068b84fedb692dbca89e4166dc3c29cdc60f97a8012df1147d4679e28305a5"), looks := false }, kinds := [], alts := [], laidByText := true, laidKinds := [.data, .data], laidTests := true, laidLooks := .later }
def DedupAgainCardSaid : Prop := Claim7.holds Tryd.pinned (.plain (OpenSpec.ofChange dedupAgainSpec)) dedupAgainCard

/-- THE SECOND FORM's CARD OF 'flumelaw12.TunnelOnce'. -/
def tunnelOnceUptoCard : Claim7 := { stood := { row := tunnelOnceUptoRow, standIns := [], harness := (true, "7f068b84fedb692dbca89e4166dc3c29cdc60f97a8012df1147d4679e28305a5"), looks := false }, kinds := [], alts := [], laidByText := true, laidKinds := [.data], laidTests := true, laidLooks := .later }
def TunnelOnceUptoCardSaid : Prop := Claim7.holds Tryd.pinned (.plain (OpenSpec.upto tunnelOnceSpec)) tunnelOnceUptoCard

/-- THE SECOND FORM's CARD OF 'flumelaw12.TunnelBounds'. -/
def tunnelBoundsUptoCard : Claim7 := { stood := { row := tunnelBoundsUptoRow, standIns := [], harness := (true, "7f068b84fedb692dbca89e4166dc3c29cdc60f97a8012df1147d4679e28305a5"), looks := false }, kinds := [], alts := [], laidByText := true, laidKinds := [.data], laidTests := true, laidLooks := .later }
def TunnelBoundsUptoCardSaid : Prop := Claim7.holds Tryd.pinned (.plain (OpenSpec.upto tunnelBoundsSpec)) tunnelBoundsUptoCard

/-- THE SECOND FORM's CARD OF 'flumelaw12.TunnelSettles'. -/
def tunnelSettlesUptoCard : Claim7 := { stood := { row := tunnelSettlesUptoRow, standIns := [], harness := (true, "7f068b84fedb692dbca89e4166dc3c29cdc60f97a8012df1147d4679e28305a5"), looks := false }, kinds := [], alts := [], laidByText := true, laidKinds := [.data], laidTests := true, laidLooks := .later }
def TunnelSettlesUptoCardSaid : Prop := Claim7.holds Tryd.pinned (.plain (OpenSpec.upto tunnelSettlesSpec)) tunnelSettlesUptoCard

/-- THE SECOND FORM's CARD OF 'flumelaw12.TunnelSame'. -/
def tunnelSameUptoCard : Claim7 := { stood := { row := tunnelSameUptoRow, standIns := [], harness := (true, "7f068b84fedb692dbca89e4166dc3c29cdc60f97a8012df1147d4679e28305a5"), looks := false }, kinds := [], alts := [], laidByText := true, laidKinds := [.data], laidTests := true, laidLooks := .later }
def TunnelSameUptoCardSaid : Prop := Claim7.holds Tryd.pinned (.plain (OpenSpec.upto tunnelSameSpec)) tunnelSameUptoCard

/-- THE SECOND FORM's CARD OF 'flumelaw11.DedupLess'. -/
def dedupLessUptoCard : Claim7 := { stood := { row := dedupLessUptoRow, standIns := [], harness := (true, "7f068b84fedb692dbca89e4166dc3c29cdc60f97a8012df1147d4679e28305a5"), looks := false }, kinds := [], alts := [], laidByText := true, laidKinds := [.data, .data], laidTests := true, laidLooks := .later }
def DedupLessUptoCardSaid : Prop := Claim7.holds Tryd.pinned (.plain (OpenSpec.upto dedupLessSpec)) dedupLessUptoCard

/-- THE SECOND FORM's CARD OF 'flumelaw11.DedupLets'. -/
def dedupLetsUptoCard : Claim7 := { stood := { row := dedupLetsUptoRow, standIns := [], harness := (true, "7f068b84fedb692dbca89e4166dc3c29cdc60f97a8012df1147d4679e28305a5"), looks := false }, kinds := [], alts := [], laidByText := true, laidKinds := [.data, .data], laidTests := true, laidLooks := .later }
def DedupLetsUptoCardSaid : Prop := Claim7.holds Tryd.pinned (.plain (OpenSpec.upto dedupLetsSpec)) dedupLetsUptoCard

/-- THE SECOND FORM's CARD OF 'flumelaw11.DedupBounds'. -/
def dedupBoundsUptoCard : Claim7 := { stood := { row := dedupBoundsUptoRow, standIns := [], harness := (true, "7f068b84fedb692dbca89e4166dc3c29cdc60f97a8012df1147d4679e28305a5"), looks := false }, kinds := [], alts := [], laidByText := true, laidKinds := [.data, .data], laidTests := true, laidLooks := .later }
def DedupBoundsUptoCardSaid : Prop := Claim7.holds Tryd.pinned (.plain (OpenSpec.upto dedupBoundsSpec)) dedupBoundsUptoCard

/-- THE SECOND FORM's CARD OF 'flumelaw11.DedupNobody'. -/
def dedupNobodyUptoCard : Claim7 := { stood := { row := dedupNobodyUptoRow, standIns := [], harness := (true, "7f068b84fedb692dbca89e4166dc3c29cdc60f97a8012df1147d4679e28305a5"), looks := false }, kinds := [], alts := [], laidByText := true, laidKinds := [.data, .data], laidTests := true, laidLooks := .later }
def DedupNobodyUptoCardSaid : Prop := Claim7.holds Tryd.pinned (.plain (OpenSpec.upto dedupNobodySpec)) dedupNobodyUptoCard

/-- THE SECOND FORM's CARD OF 'flumelaw11.DedupAgain'. -/
def dedupAgainUptoCard : Claim7 := { stood := { row := dedupAgainUptoRow, standIns := [], harness := (true, "7f068b84fedb692dbca89e4166dc3c29cdc60f97a8012df1147d4679e28305a5"), looks := false }, kinds := [], alts := [], laidByText := true, laidKinds := [.data, .data], laidTests := true, laidLooks := .later }
def DedupAgainUptoCardSaid : Prop := Claim7.holds Tryd.pinned (.plain (OpenSpec.upto dedupAgainSpec)) dedupAgainUptoCard
end Rows
end Go.Proofs.YtonbafpfcmlnlaaDoor
