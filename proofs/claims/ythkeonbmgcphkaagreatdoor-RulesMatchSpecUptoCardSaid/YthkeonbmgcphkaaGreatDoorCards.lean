/-
  DERIVED. GIVEN WITH THE SEED: THE CARDS: each row of YthkeonbmgcphkaaGreatDoorRows.lean that lists a variable, with what it lists TIED to the program's text (the seventh form; the later family's looks); each row that meets fmt, with fmt's text TOLD by the authors' own Lean function (tested against real Go, not proved from fmt's source: count such statements apart). THE CARD IS WHAT COUNTS. Prove the row's statement (the work); the ties are given (YthkeonbmgcphkaaGreatDoorTie.lean); close each card by the builder's one call (the guide's Derived/Test/ToyasCard.lean, 'card_holds'). Laid BY PROGRAM, IN A SANDBOX (cutbox-door.mjs). By AI agents, Wed Nov 11 2026. No macro, syntax, notation, axiom, sorry.
-/
import Derived.Test.YthkeonbmgcphkaaGreatDoorRows
import GoSem.ClaimSeven
namespace Go.Proofs.YthkeonbmgcphkaaGreatDoor
namespace Rows

/-- THE TIED CARD OF 'etchhouselaw6.RulesMatchSpec'. -/
def rulesMatchSpecCard : Claim7 := { stood := { row := rulesMatchSpecRow, standIns := [], harness := (true, "1bd87c56d404a0f6c039ce7748167450cbddcbb2e8faceac8b835b4b168a3121"), looks := true }, kinds := [], alts := [], laidByText := true, laidKinds := [.data, .data, .data, .data, .pinned], laidTests := true, laidLooks := .later }
def RulesMatchSpecCardSaid : Prop := Claim7.holds Tryz.pinned (.plain (OpenSpec.ofChange rulesMatchSpecSpec)) rulesMatchSpecCard

/-- THE TIED CARD OF 'etchhouselaw6.RulesNeedEven'. -/
def rulesNeedEvenCard : Claim7 := { stood := { row := rulesNeedEvenRow, standIns := [], harness := (true, "1bd87c56d404a0f6c039ce7748167450cbddcbb2e8faceac8b835b4b168a3121"), looks := true }, kinds := [], alts := [], laidByText := true, laidKinds := [.data, .data, .data, .data, .pinned], laidTests := true, laidLooks := .later }
def RulesNeedEvenCardSaid : Prop := Claim7.holds Tryz.pinned (.plain (OpenSpec.ofChange rulesNeedEvenSpec)) rulesNeedEvenCard

/-- THE TIED CARD OF 'etchhouselaw6.RulesNeedMatchSpec'. -/
def rulesNeedMatchSpecCard : Claim7 := { stood := { row := rulesNeedMatchSpecRow, standIns := [], harness := (true, "1bd87c56d404a0f6c039ce7748167450cbddcbb2e8faceac8b835b4b168a3121"), looks := true }, kinds := [], alts := [], laidByText := true, laidKinds := [.data, .data, .data, .data, .pinned], laidTests := true, laidLooks := .later }
def RulesNeedMatchSpecCardSaid : Prop := Claim7.holds Tryz.pinned (.plain (OpenSpec.ofChange rulesNeedMatchSpecSpec)) rulesNeedMatchSpecCard

/-- THE TIED CARD OF 'etchhouselaw6.ThinWithWidth'. -/
def thinWithWidthCard : Claim7 := { stood := { row := thinWithWidthRow, standIns := [], harness := (true, "1bd87c56d404a0f6c039ce7748167450cbddcbb2e8faceac8b835b4b168a3121"), looks := true }, kinds := [], alts := [], laidByText := true, laidKinds := [.data, .data, .data, .data, .pinned], laidTests := true, laidLooks := .later }
def ThinWithWidthCardSaid : Prop := Claim7.holds Tryz.pinned (.plain (OpenSpec.ofChange thinWithWidthSpec)) thinWithWidthCard

/-- THE TIED CARD OF 'etchhouselaw6.ThinByPoints'. -/
def thinByPointsCard : Claim7 := { stood := { row := thinByPointsRow, standIns := [], harness := (true, "1bd87c56d404a0f6c039ce7748167450cbddcbb2e8faceac8b835b4b168a3121"), looks := true }, kinds := [], alts := [], laidByText := true, laidKinds := [.data, .data, .data, .data, .pinned], laidTests := true, laidLooks := .later }
def ThinByPointsCardSaid : Prop := Claim7.holds Tryz.pinned (.plain (OpenSpec.ofChange thinByPointsSpec)) thinByPointsCard

/-- THE TIED CARD OF 'etchhouselaw6.RulesReadMatchSpec'. -/
def rulesReadMatchSpecCard : Claim7 := { stood := { row := rulesReadMatchSpecRow, standIns := [], harness := (true, "1bd87c56d404a0f6c039ce7748167450cbddcbb2e8faceac8b835b4b168a3121"), looks := true }, kinds := [], alts := [], laidByText := true, laidKinds := [.data, .data, .data, .data, .sentinel, .sentinel, .pinned], laidTests := true, laidLooks := .later }
def RulesReadMatchSpecCardSaid : Prop := Claim7.holds Tryz.pinned (.plain (OpenSpec.ofChange rulesReadMatchSpecSpec)) rulesReadMatchSpecCard

/-- THE TIED CARD OF 'etchhouselaw6.RulesComeBack'. -/
def rulesComeBackCard : Claim7 := { stood := { row := rulesComeBackRow, standIns := [], harness := (true, "1bd87c56d404a0f6c039ce7748167450cbddcbb2e8faceac8b835b4b168a3121"), looks := true }, kinds := [], alts := [], laidByText := true, laidKinds := [.data, .data, .data, .data, .sentinel, .sentinel, .pinned], laidTests := true, laidLooks := .later }
def RulesComeBackCardSaid : Prop := Claim7.holds Tryz.pinned (.plain (OpenSpec.ofChange rulesComeBackSpec)) rulesComeBackCard

/-- THE SECOND FORM's CARD OF 'etchhouselaw6.RulesMatchSpec'. -/
def rulesMatchSpecUptoCard : Claim7 := { stood := { row := rulesMatchSpecUptoRow, standIns := [], harness := (true, "1bd87c56d404a0f6c039ce7748167450cbddcbb2e8faceac8b835b4b168a3121"), looks := true }, kinds := [], alts := [], laidByText := true, laidKinds := [.data, .data, .data, .data, .pinned], laidTests := true, laidLooks := .later }
def RulesMatchSpecUptoCardSaid : Prop := Claim7.holds Tryz.pinned (.plain (OpenSpec.upto rulesMatchSpecSpec)) rulesMatchSpecUptoCard

/-- THE SECOND FORM's CARD OF 'etchhouselaw6.RulesNeedEven'. -/
def rulesNeedEvenUptoCard : Claim7 := { stood := { row := rulesNeedEvenUptoRow, standIns := [], harness := (true, "1bd87c56d404a0f6c039ce7748167450cbddcbb2e8faceac8b835b4b168a3121"), looks := true }, kinds := [], alts := [], laidByText := true, laidKinds := [.data, .data, .data, .data, .pinned], laidTests := true, laidLooks := .later }
def RulesNeedEvenUptoCardSaid : Prop := Claim7.holds Tryz.pinned (.plain (OpenSpec.upto rulesNeedEvenSpec)) rulesNeedEvenUptoCard

/-- THE SECOND FORM's CARD OF 'etchhouselaw6.RulesNeedMatchSpec'. -/
def rulesNeedMatchSpecUptoCard : Claim7 := { stood := { row := rulesNeedMatchSpecUptoRow, standIns := [], harness := (true, "1bd87c56d404a0f6c039ce7748167450cbddcbb2e8faceac8b835b4b168a3121"), looks := true }, kinds := [], alts := [], laidByText := true, laidKinds := [.data, .data, .data, .data, .pinned], laidTests := true, laidLooks := .later }
def RulesNeedMatchSpecUptoCardSaid : Prop := Claim7.holds Tryz.pinned (.plain (OpenSpec.upto rulesNeedMatchSpecSpec)) rulesNeedMatchSpecUptoCard

/-- THE SECOND FORM's CARD OF 'etchhouselaw6.ThinWithWidth'. -/
def thinWithWidthUptoCard : Claim7 := { stood := { row := thinWithWidthUptoRow, standIns := [], harness := (true, "1bd87c56d404a0f6c039ce7748167450cbddcbb2e8faceac8b835b4b168a3121"), looks := true }, kinds := [], alts := [], laidByText := true, laidKinds := [.data, .data, .data, .data, .pinned], laidTests := true, laidLooks := .later }
def ThinWithWidthUptoCardSaid : Prop := Claim7.holds Tryz.pinned (.plain (OpenSpec.upto thinWithWidthSpec)) thinWithWidthUptoCard

/-- THE SECOND FORM's CARD OF 'etchhouselaw6.ThinByPoints'. -/
def thinByPointsUptoCard : Claim7 := { stood := { row := thinByPointsUptoRow, standIns := [], harness := (true, "1bd87c56d404a0f6c039ce7748167450cbddcbb2e8faceac8b835b4b168a3121"), looks := true }, kinds := [], alts := [], laidByText := true, laidKinds := [.data, .data, .data, .data, .pinned], laidTests := true, laidLooks := .later }
def ThinByPointsUptoCardSaid : Prop := Claim7.holds Tryz.pinned (.plain (OpenSpec.upto thinByPointsSpec)) thinByPointsUptoCard

/-- THE SECOND FORM's CARD OF 'etchhouselaw6.RulesReadMatchSpec'. -/
def rulesReadMatchSpecUptoCard : Claim7 := { stood := { row := rulesReadMatchSpecUptoRow, standIns := [], harness := (true, "1bd87c56d404a0f6c039ce7748167450cbddcbb2e8faceac8b835b4b168a3121"), looks := true }, kinds := [], alts := [], laidByText := true, laidKinds := [.data, .data, .data, .data, .sentinel, .sentinel, .pinned], laidTests := true, laidLooks := .later }
def RulesReadMatchSpecUptoCardSaid : Prop := Claim7.holds Tryz.pinned (.plain (OpenSpec.upto rulesReadMatchSpecSpec)) rulesReadMatchSpecUptoCard

/-- THE SECOND FORM's CARD OF 'etchhouselaw6.RulesComeBack'. -/
def rulesComeBackUptoCard : Claim7 := { stood := { row := rulesComeBackUptoRow, standIns := [], harness := (true, "1bd87c56d404a0f6c039ce7748167450cbddcbb2e8faceac8b835b4b168a3121"), looks := true }, kinds := [], alts := [], laidByText := true, laidKinds := [.data, .data, .data, .data, .sentinel, .sentinel, .pinned], laidTests := true, laidLooks := .later }
def RulesComeBackUptoCardSaid : Prop := Claim7.holds Tryz.pinned (.plain (OpenSpec.upto rulesComeBackSpec)) rulesComeBackUptoCard
end Rows
end Go.Proofs.YthkeonbmgcphkaaGreatDoor
