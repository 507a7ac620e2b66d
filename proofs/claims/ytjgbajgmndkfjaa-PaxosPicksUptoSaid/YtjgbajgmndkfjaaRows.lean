/-
  No cell of these rows narrows 'for every input' (looked for: loops, veiled, ifaces, maps, wideKeys, modest, calm, conditions, laid).
  DERIVED. THE GIVEN ROWS OF THIS SEAT. 26 by the template 'for every input the law returns true; each argument reads behind the call as it read before'; 0 by the template 'total and deterministic' (their statements: YtjgbajgmndkfjaaTotals.lean).
  GIVEN WITH THE SEED: the statements are not yours to turn. If you find one false, say at which input.
  Laid BY PROGRAM, IN A SANDBOX (cutbox-rows.mjs): the forced cells as the released guide's own fill.sh prints them over the translation 67c708bb285ad647… (all of the seat's roots in one cut). By AI agents, Wed Nov 11 2026. No macro, syntax, notation, axiom, sorry.
-/
import Derived.Test.YtjgbajgmndkfjaaChecked
import GoSem.Claim
import GoSem.ClaimJoined
import GoSem.ClaimMapViews
import Derived.JoinedTies
import Derived.KernelRfl
namespace Go.Proofs.Ytjgbajgmndkfjaa
/- THE CELL 'sum', in the pinned program and in every row, IS THE sha256 OF THE DUMP (.gsa) THAT YtjgbajgmndkfjaaProg.lean LOADS. Nothing in Lean hashes anything: it is a label: what it is worth is what the hold of that sum in a sandbox is worth. -/
noncomputable def Try.pinned : Pinned := { name := "ytjgbajgmndkfjaa", sum := "67c708bb285ad6474f0dde5ac5a82c84753a006e8c6c3c90f2008a7c0786de84", checked := Try.checked }
namespace Rows
def none {H : Type} : Left H := { results := [], args := [] }

/-- 'conclavelaw.Names': WHATEVER THE INPUT: true; the input reads as it did. -/
def namesSpec : ChangeSpec := { name := "names", fn := fun _ => fun
  | [] => { results := [.lit (.bool true)], args := [] }
  | _ => none }
def namesRow : OpenClaim := { program := "ytjgbajgmndkfjaa", sum := "67c708bb285ad6474f0dde5ac5a82c84753a006e8c6c3c90f2008a7c0786de84", func := "conclave/conclavelaw.Names", spec := "names", plainKeys := false, apart := false }
def NamesSaid : Prop := namesRow.holds Try.pinned (OpenSpec.ofChange namesSpec)

/-- ITS FALSE NEIGHBOUR: 'it returns false'. Refute it at one input. -/
def namesWrong : ChangeSpec := { name := "names", fn := fun _ => fun
  | [] => { results := [.lit (.bool false)], args := [] }
  | _ => none }
def NamesWrongFalsely : Prop := namesRow.holds Try.pinned (OpenSpec.ofChange namesWrong)

/-- 'conclavelaw.ShaSames': WHATEVER THE INPUT: true; the input reads as it did. -/
def shaSamesSpec : ChangeSpec := { name := "shaSames", fn := fun _ => fun
  | [d1, d2] => { results := [.lit (.bool true)], args := [d1, d2] }
  | _ => none }
def shaSamesRow : OpenClaim := { program := "ytjgbajgmndkfjaa", sum := "67c708bb285ad6474f0dde5ac5a82c84753a006e8c6c3c90f2008a7c0786de84", func := "conclave/conclavelaw.ShaSames", spec := "shaSames", plainKeys := false, apart := false }
def ShaSamesSaid : Prop := shaSamesRow.holds Try.pinned (OpenSpec.ofChange shaSamesSpec)

/-- ITS FALSE NEIGHBOUR: 'it returns false'. Refute it at one input. -/
def shaSamesWrong : ChangeSpec := { name := "shaSames", fn := fun _ => fun
  | [d1, d2] => { results := [.lit (.bool false)], args := [d1, d2] }
  | _ => none }
def ShaSamesWrongFalsely : Prop := shaSamesRow.holds Try.pinned (OpenSpec.ofChange shaSamesWrong)

/-- 'conclavelaw.VaultChecks': WHATEVER THE INPUT: true; the input reads as it did. -/
def vaultChecksSpec : ChangeSpec := { name := "vaultChecks", fn := fun _ => fun
  | [d] => { results := [.lit (.bool true)], args := [d] }
  | _ => none }
def vaultChecksRow : OpenClaim := { program := "ytjgbajgmndkfjaa", sum := "67c708bb285ad6474f0dde5ac5a82c84753a006e8c6c3c90f2008a7c0786de84", func := "conclave/conclavelaw.VaultChecks", spec := "vaultChecks", plainKeys := false, apart := false }
def VaultChecksSaid : Prop := vaultChecksRow.holds Try.pinned (OpenSpec.ofChange vaultChecksSpec)

/-- ITS FALSE NEIGHBOUR: 'it returns false'. Refute it at one input. -/
def vaultChecksWrong : ChangeSpec := { name := "vaultChecks", fn := fun _ => fun
  | [d] => { results := [.lit (.bool false)], args := [d] }
  | _ => none }
def VaultChecksWrongFalsely : Prop := vaultChecksRow.holds Try.pinned (OpenSpec.ofChange vaultChecksWrong)

/-- 'conclavelaw.LineChecks': WHATEVER THE INPUT: true; the input reads as it did. -/
def lineChecksSpec : ChangeSpec := { name := "lineChecks", fn := fun _ => fun
  | [d] => { results := [.lit (.bool true)], args := [d] }
  | _ => none }
def lineChecksRow : OpenClaim := { program := "ytjgbajgmndkfjaa", sum := "67c708bb285ad6474f0dde5ac5a82c84753a006e8c6c3c90f2008a7c0786de84", func := "conclave/conclavelaw.LineChecks", spec := "lineChecks", plainKeys := false, apart := false }
def LineChecksSaid : Prop := lineChecksRow.holds Try.pinned (OpenSpec.ofChange lineChecksSpec)

/-- ITS FALSE NEIGHBOUR: 'it returns false'. Refute it at one input. -/
def lineChecksWrong : ChangeSpec := { name := "lineChecks", fn := fun _ => fun
  | [d] => { results := [.lit (.bool false)], args := [d] }
  | _ => none }
def LineChecksWrongFalsely : Prop := lineChecksRow.holds Try.pinned (OpenSpec.ofChange lineChecksWrong)

/-- 'conclavelaw.LineNews': WHATEVER THE INPUT: true; the input reads as it did. -/
def lineNewsSpec : ChangeSpec := { name := "lineNews", fn := fun _ => fun
  | [d] => { results := [.lit (.bool true)], args := [d] }
  | _ => none }
def lineNewsRow : OpenClaim := { program := "ytjgbajgmndkfjaa", sum := "67c708bb285ad6474f0dde5ac5a82c84753a006e8c6c3c90f2008a7c0786de84", func := "conclave/conclavelaw.LineNews", spec := "lineNews", plainKeys := false, apart := false }
def LineNewsSaid : Prop := lineNewsRow.holds Try.pinned (OpenSpec.ofChange lineNewsSpec)

/-- ITS FALSE NEIGHBOUR: 'it returns false'. Refute it at one input. -/
def lineNewsWrong : ChangeSpec := { name := "lineNews", fn := fun _ => fun
  | [d] => { results := [.lit (.bool false)], args := [d] }
  | _ => none }
def LineNewsWrongFalsely : Prop := lineNewsRow.holds Try.pinned (OpenSpec.ofChange lineNewsWrong)

/-- 'conclavelaw.OrderChecks': WHATEVER THE INPUT: true; the input reads as it did. -/
def orderChecksSpec : ChangeSpec := { name := "orderChecks", fn := fun _ => fun
  | [d] => { results := [.lit (.bool true)], args := [d] }
  | _ => none }
def orderChecksRow : OpenClaim := { program := "ytjgbajgmndkfjaa", sum := "67c708bb285ad6474f0dde5ac5a82c84753a006e8c6c3c90f2008a7c0786de84", func := "conclave/conclavelaw.OrderChecks", spec := "orderChecks", plainKeys := false, apart := false }
def OrderChecksSaid : Prop := orderChecksRow.holds Try.pinned (OpenSpec.ofChange orderChecksSpec)

/-- ITS FALSE NEIGHBOUR: 'it returns false'. Refute it at one input. -/
def orderChecksWrong : ChangeSpec := { name := "orderChecks", fn := fun _ => fun
  | [d] => { results := [.lit (.bool false)], args := [d] }
  | _ => none }
def OrderChecksWrongFalsely : Prop := orderChecksRow.holds Try.pinned (OpenSpec.ofChange orderChecksWrong)

/-- 'conclavelaw.StableSyncs': WHATEVER THE INPUT: true; the input reads as it did. -/
def stableSyncsSpec : ChangeSpec := { name := "stableSyncs", fn := fun _ => fun
  | [d] => { results := [.lit (.bool true)], args := [d] }
  | _ => none }
def stableSyncsRow : OpenClaim := { program := "ytjgbajgmndkfjaa", sum := "67c708bb285ad6474f0dde5ac5a82c84753a006e8c6c3c90f2008a7c0786de84", func := "conclave/conclavelaw.StableSyncs", spec := "stableSyncs", plainKeys := false, apart := false }
def StableSyncsSaid : Prop := stableSyncsRow.holds Try.pinned (OpenSpec.ofChange stableSyncsSpec)

/-- ITS FALSE NEIGHBOUR: 'it returns false'. Refute it at one input. -/
def stableSyncsWrong : ChangeSpec := { name := "stableSyncs", fn := fun _ => fun
  | [d] => { results := [.lit (.bool false)], args := [d] }
  | _ => none }
def StableSyncsWrongFalsely : Prop := stableSyncsRow.holds Try.pinned (OpenSpec.ofChange stableSyncsWrong)

/-- 'conclavelaw.StableCrashes': WHATEVER THE INPUT: true; the input reads as it did. -/
def stableCrashesSpec : ChangeSpec := { name := "stableCrashes", fn := fun _ => fun
  | [d1, d2] => { results := [.lit (.bool true)], args := [d1, d2] }
  | _ => none }
def stableCrashesRow : OpenClaim := { program := "ytjgbajgmndkfjaa", sum := "67c708bb285ad6474f0dde5ac5a82c84753a006e8c6c3c90f2008a7c0786de84", func := "conclave/conclavelaw.StableCrashes", spec := "stableCrashes", plainKeys := false, apart := false }
def StableCrashesSaid : Prop := stableCrashesRow.holds Try.pinned (OpenSpec.ofChange stableCrashesSpec)

/-- ITS FALSE NEIGHBOUR: 'it returns false'. Refute it at one input. -/
def stableCrashesWrong : ChangeSpec := { name := "stableCrashes", fn := fun _ => fun
  | [d1, d2] => { results := [.lit (.bool false)], args := [d1, d2] }
  | _ => none }
def StableCrashesWrongFalsely : Prop := stableCrashesRow.holds Try.pinned (OpenSpec.ofChange stableCrashesWrong)

/-- 'conclavelaw.LinesChecks': WHATEVER THE INPUT: true; the input reads as it did. -/
def linesChecksSpec : ChangeSpec := { name := "linesChecks", fn := fun _ => fun
  | [d] => { results := [.lit (.bool true)], args := [d] }
  | _ => none }
def linesChecksRow : OpenClaim := { program := "ytjgbajgmndkfjaa", sum := "67c708bb285ad6474f0dde5ac5a82c84753a006e8c6c3c90f2008a7c0786de84", func := "conclave/conclavelaw.LinesChecks", spec := "linesChecks", plainKeys := false, apart := false }
def LinesChecksSaid : Prop := linesChecksRow.holds Try.pinned (OpenSpec.ofChange linesChecksSpec)

/-- ITS FALSE NEIGHBOUR: 'it returns false'. Refute it at one input. -/
def linesChecksWrong : ChangeSpec := { name := "linesChecks", fn := fun _ => fun
  | [d] => { results := [.lit (.bool false)], args := [d] }
  | _ => none }
def LinesChecksWrongFalsely : Prop := linesChecksRow.holds Try.pinned (OpenSpec.ofChange linesChecksWrong)

/-- 'conclavelaw.OrderEncodes': WHATEVER THE INPUT: true; the input reads as it did. -/
def orderEncodesSpec : ChangeSpec := { name := "orderEncodes", fn := fun _ => fun
  | [d] => { results := [.lit (.bool true)], args := [d] }
  | _ => none }
def orderEncodesRow : OpenClaim := { program := "ytjgbajgmndkfjaa", sum := "67c708bb285ad6474f0dde5ac5a82c84753a006e8c6c3c90f2008a7c0786de84", func := "conclave/conclavelaw.OrderEncodes", spec := "orderEncodes", plainKeys := false, apart := false }
def OrderEncodesSaid : Prop := orderEncodesRow.holds Try.pinned (OpenSpec.ofChange orderEncodesSpec)

/-- ITS FALSE NEIGHBOUR: 'it returns false'. Refute it at one input. -/
def orderEncodesWrong : ChangeSpec := { name := "orderEncodes", fn := fun _ => fun
  | [d] => { results := [.lit (.bool false)], args := [d] }
  | _ => none }
def OrderEncodesWrongFalsely : Prop := orderEncodesRow.holds Try.pinned (OpenSpec.ofChange orderEncodesWrong)

/-- 'conclavelaw.OrderDecodes': WHATEVER THE INPUT: true; the input reads as it did. -/
def orderDecodesSpec : ChangeSpec := { name := "orderDecodes", fn := fun _ => fun
  | [d] => { results := [.lit (.bool true)], args := [d] }
  | _ => none }
def orderDecodesRow : OpenClaim := { program := "ytjgbajgmndkfjaa", sum := "67c708bb285ad6474f0dde5ac5a82c84753a006e8c6c3c90f2008a7c0786de84", func := "conclave/conclavelaw.OrderDecodes", spec := "orderDecodes", plainKeys := false, apart := false }
def OrderDecodesSaid : Prop := orderDecodesRow.holds Try.pinned (OpenSpec.ofChange orderDecodesSpec)

/-- ITS FALSE NEIGHBOUR: 'it returns false'. Refute it at one input. -/
def orderDecodesWrong : ChangeSpec := { name := "orderDecodes", fn := fun _ => fun
  | [d] => { results := [.lit (.bool false)], args := [d] }
  | _ => none }
def OrderDecodesWrongFalsely : Prop := orderDecodesRow.holds Try.pinned (OpenSpec.ofChange orderDecodesWrong)

/-- 'conclavelaw.ChaBlocks': WHATEVER THE INPUT: true; the input reads as it did. -/
def chaBlocksSpec : ChangeSpec := { name := "chaBlocks", fn := fun _ => fun
  | [d1, d2, d3] => { results := [.lit (.bool true)], args := [d1, d2, d3] }
  | _ => none }
def chaBlocksRow : OpenClaim := { program := "ytjgbajgmndkfjaa", sum := "67c708bb285ad6474f0dde5ac5a82c84753a006e8c6c3c90f2008a7c0786de84", func := "conclave/conclavelaw.ChaBlocks", spec := "chaBlocks", plainKeys := false, apart := false }
def ChaBlocksSaid : Prop := chaBlocksRow.holds Try.pinned (OpenSpec.ofChange chaBlocksSpec)

/-- ITS FALSE NEIGHBOUR: 'it returns false'. Refute it at one input. -/
def chaBlocksWrong : ChangeSpec := { name := "chaBlocks", fn := fun _ => fun
  | [d1, d2, d3] => { results := [.lit (.bool false)], args := [d1, d2, d3] }
  | _ => none }
def ChaBlocksWrongFalsely : Prop := chaBlocksRow.holds Try.pinned (OpenSpec.ofChange chaBlocksWrong)

/-- 'conclavelaw.ChaMixes': WHATEVER THE INPUT: true; the input reads as it did. -/
def chaMixesSpec : ChangeSpec := { name := "chaMixes", fn := fun _ => fun
  | [d1, d2, d3, d4] => { results := [.lit (.bool true)], args := [d1, d2, d3, d4] }
  | _ => none }
def chaMixesRow : OpenClaim := { program := "ytjgbajgmndkfjaa", sum := "67c708bb285ad6474f0dde5ac5a82c84753a006e8c6c3c90f2008a7c0786de84", func := "conclave/conclavelaw.ChaMixes", spec := "chaMixes", plainKeys := false, apart := false }
def ChaMixesSaid : Prop := chaMixesRow.holds Try.pinned (OpenSpec.ofChange chaMixesSpec)

/-- ITS FALSE NEIGHBOUR: 'it returns false'. Refute it at one input. -/
def chaMixesWrong : ChangeSpec := { name := "chaMixes", fn := fun _ => fun
  | [d1, d2, d3, d4] => { results := [.lit (.bool false)], args := [d1, d2, d3, d4] }
  | _ => none }
def ChaMixesWrongFalsely : Prop := chaMixesRow.holds Try.pinned (OpenSpec.ofChange chaMixesWrong)

/-- 'conclavelaw.VaultDoes': WHATEVER THE INPUT: true; the input reads as it did. -/
def vaultDoesSpec : ChangeSpec := { name := "vaultDoes", fn := fun _ => fun
  | [d1, d2] => { results := [.lit (.bool true)], args := [d1, d2] }
  | _ => none }
def vaultDoesRow : OpenClaim := { program := "ytjgbajgmndkfjaa", sum := "67c708bb285ad6474f0dde5ac5a82c84753a006e8c6c3c90f2008a7c0786de84", func := "conclave/conclavelaw.VaultDoes", spec := "vaultDoes", plainKeys := false, apart := false }
def VaultDoesSaid : Prop := vaultDoesRow.holds Try.pinned (OpenSpec.ofChange vaultDoesSpec)

/-- ITS FALSE NEIGHBOUR: 'it returns false'. Refute it at one input. -/
def vaultDoesWrong : ChangeSpec := { name := "vaultDoes", fn := fun _ => fun
  | [d1, d2] => { results := [.lit (.bool false)], args := [d1, d2] }
  | _ => none }
def VaultDoesWrongFalsely : Prop := vaultDoesRow.holds Try.pinned (OpenSpec.ofChange vaultDoesWrong)

/-- 'conclavelaw.PaxosChecks': WHATEVER THE INPUT: true; the input reads as it did. -/
def paxosChecksSpec : ChangeSpec := { name := "paxosChecks", fn := fun _ => fun
  | [d] => { results := [.lit (.bool true)], args := [d] }
  | _ => none }
def paxosChecksRow : OpenClaim := { program := "ytjgbajgmndkfjaa", sum := "67c708bb285ad6474f0dde5ac5a82c84753a006e8c6c3c90f2008a7c0786de84", func := "conclave/conclavelaw.PaxosChecks", spec := "paxosChecks", plainKeys := false, apart := false }
def PaxosChecksSaid : Prop := paxosChecksRow.holds Try.pinned (OpenSpec.ofChange paxosChecksSpec)

/-- ITS FALSE NEIGHBOUR: 'it returns false'. Refute it at one input. -/
def paxosChecksWrong : ChangeSpec := { name := "paxosChecks", fn := fun _ => fun
  | [d] => { results := [.lit (.bool false)], args := [d] }
  | _ => none }
def PaxosChecksWrongFalsely : Prop := paxosChecksRow.holds Try.pinned (OpenSpec.ofChange paxosChecksWrong)

/-- 'conclavelaw.PaxosPicks': WHATEVER THE INPUT: true; the input reads as it did. -/
def paxosPicksSpec : ChangeSpec := { name := "paxosPicks", fn := fun _ => fun
  | [d1, d2] => { results := [.lit (.bool true)], args := [d1, d2] }
  | _ => none }
def paxosPicksRow : OpenClaim := { program := "ytjgbajgmndkfjaa", sum := "67c708bb285ad6474f0dde5ac5a82c84753a006e8c6c3c90f2008a7c0786de84", func := "conclave/conclavelaw.PaxosPicks", spec := "paxosPicks", plainKeys := false, apart := false }
def PaxosPicksSaid : Prop := paxosPicksRow.holds Try.pinned (OpenSpec.ofChange paxosPicksSpec)

/-- ITS FALSE NEIGHBOUR: 'it returns false'. Refute it at one input. -/
def paxosPicksWrong : ChangeSpec := { name := "paxosPicks", fn := fun _ => fun
  | [d1, d2] => { results := [.lit (.bool false)], args := [d1, d2] }
  | _ => none }
def PaxosPicksWrongFalsely : Prop := paxosPicksRow.holds Try.pinned (OpenSpec.ofChange paxosPicksWrong)

/-- 'conclavelaw.PolyTags': WHATEVER THE INPUT: true; the input reads as it did. -/
def polyTagsSpec : ChangeSpec := { name := "polyTags", fn := fun _ => fun
  | [d1, d2] => { results := [.lit (.bool true)], args := [d1, d2] }
  | _ => none }
def polyTagsRow : OpenClaim := { program := "ytjgbajgmndkfjaa", sum := "67c708bb285ad6474f0dde5ac5a82c84753a006e8c6c3c90f2008a7c0786de84", func := "conclave/conclavelaw.PolyTags", spec := "polyTags", plainKeys := false, apart := false }
def PolyTagsSaid : Prop := polyTagsRow.holds Try.pinned (OpenSpec.ofChange polyTagsSpec)

/-- ITS FALSE NEIGHBOUR: 'it returns false'. Refute it at one input. -/
def polyTagsWrong : ChangeSpec := { name := "polyTags", fn := fun _ => fun
  | [d1, d2] => { results := [.lit (.bool false)], args := [d1, d2] }
  | _ => none }
def PolyTagsWrongFalsely : Prop := polyTagsRow.holds Try.pinned (OpenSpec.ofChange polyTagsWrong)

/-- 'conclavelaw.PaxosPromises': WHATEVER THE INPUT: true; the input reads as it did. -/
def paxosPromisesSpec : ChangeSpec := { name := "paxosPromises", fn := fun _ => fun
  | [d1, d2] => { results := [.lit (.bool true)], args := [d1, d2] }
  | _ => none }
def paxosPromisesRow : OpenClaim := { program := "ytjgbajgmndkfjaa", sum := "67c708bb285ad6474f0dde5ac5a82c84753a006e8c6c3c90f2008a7c0786de84", func := "conclave/conclavelaw.PaxosPromises", spec := "paxosPromises", plainKeys := false, apart := false }
def PaxosPromisesSaid : Prop := paxosPromisesRow.holds Try.pinned (OpenSpec.ofChange paxosPromisesSpec)

/-- ITS FALSE NEIGHBOUR: 'it returns false'. Refute it at one input. -/
def paxosPromisesWrong : ChangeSpec := { name := "paxosPromises", fn := fun _ => fun
  | [d1, d2] => { results := [.lit (.bool false)], args := [d1, d2] }
  | _ => none }
def PaxosPromisesWrongFalsely : Prop := paxosPromisesRow.holds Try.pinned (OpenSpec.ofChange paxosPromisesWrong)

/-- 'conclavelaw.PaxosChosens': WHATEVER THE INPUT: true; the input reads as it did. -/
def paxosChosensSpec : ChangeSpec := { name := "paxosChosens", fn := fun _ => fun
  | [d1, d2] => { results := [.lit (.bool true)], args := [d1, d2] }
  | _ => none }
def paxosChosensRow : OpenClaim := { program := "ytjgbajgmndkfjaa", sum := "67c708bb285ad6474f0dde5ac5a82c84753a006e8c6c3c90f2008a7c0786de84", func := "conclave/conclavelaw.PaxosChosens", spec := "paxosChosens", plainKeys := false, apart := false }
def PaxosChosensSaid : Prop := paxosChosensRow.holds Try.pinned (OpenSpec.ofChange paxosChosensSpec)

/-- ITS FALSE NEIGHBOUR: 'it returns false'. Refute it at one input. -/
def paxosChosensWrong : ChangeSpec := { name := "paxosChosens", fn := fun _ => fun
  | [d1, d2] => { results := [.lit (.bool false)], args := [d1, d2] }
  | _ => none }
def PaxosChosensWrongFalsely : Prop := paxosChosensRow.holds Try.pinned (OpenSpec.ofChange paxosChosensWrong)

/-- 'conclavelaw.CurveShareds': WHATEVER THE INPUT: true; the input reads as it did. -/
def curveSharedsSpec : ChangeSpec := { name := "curveShareds", fn := fun _ => fun
  | [d1, d2] => { results := [.lit (.bool true)], args := [d1, d2] }
  | _ => none }
def curveSharedsRow : OpenClaim := { program := "ytjgbajgmndkfjaa", sum := "67c708bb285ad6474f0dde5ac5a82c84753a006e8c6c3c90f2008a7c0786de84", func := "conclave/conclavelaw.CurveShareds", spec := "curveShareds", plainKeys := false, apart := false }
def CurveSharedsSaid : Prop := curveSharedsRow.holds Try.pinned (OpenSpec.ofChange curveSharedsSpec)

/-- ITS FALSE NEIGHBOUR: 'it returns false'. Refute it at one input. -/
def curveSharedsWrong : ChangeSpec := { name := "curveShareds", fn := fun _ => fun
  | [d1, d2] => { results := [.lit (.bool false)], args := [d1, d2] }
  | _ => none }
def CurveSharedsWrongFalsely : Prop := curveSharedsRow.holds Try.pinned (OpenSpec.ofChange curveSharedsWrong)

/-- 'conclavelaw.CurvePoints': WHATEVER THE INPUT: true; the input reads as it did. -/
def curvePointsSpec : ChangeSpec := { name := "curvePoints", fn := fun _ => fun
  | [d] => { results := [.lit (.bool true)], args := [d] }
  | _ => none }
def curvePointsRow : OpenClaim := { program := "ytjgbajgmndkfjaa", sum := "67c708bb285ad6474f0dde5ac5a82c84753a006e8c6c3c90f2008a7c0786de84", func := "conclave/conclavelaw.CurvePoints", spec := "curvePoints", plainKeys := false, apart := false }
def CurvePointsSaid : Prop := curvePointsRow.holds Try.pinned (OpenSpec.ofChange curvePointsSpec)

/-- ITS FALSE NEIGHBOUR: 'it returns false'. Refute it at one input. -/
def curvePointsWrong : ChangeSpec := { name := "curvePoints", fn := fun _ => fun
  | [d] => { results := [.lit (.bool false)], args := [d] }
  | _ => none }
def CurvePointsWrongFalsely : Prop := curvePointsRow.holds Try.pinned (OpenSpec.ofChange curvePointsWrong)

/-- 'conclavelaw.SealSeals': WHATEVER THE INPUT: true; the input reads as it did. -/
def sealSealsSpec : ChangeSpec := { name := "sealSeals", fn := fun _ => fun
  | [d1, d2, d3, d4] => { results := [.lit (.bool true)], args := [d1, d2, d3, d4] }
  | _ => none }
def sealSealsRow : OpenClaim := { program := "ytjgbajgmndkfjaa", sum := "67c708bb285ad6474f0dde5ac5a82c84753a006e8c6c3c90f2008a7c0786de84", func := "conclave/conclavelaw.SealSeals", spec := "sealSeals", plainKeys := false, apart := false }
def SealSealsSaid : Prop := sealSealsRow.holds Try.pinned (OpenSpec.ofChange sealSealsSpec)

/-- ITS FALSE NEIGHBOUR: 'it returns false'. Refute it at one input. -/
def sealSealsWrong : ChangeSpec := { name := "sealSeals", fn := fun _ => fun
  | [d1, d2, d3, d4] => { results := [.lit (.bool false)], args := [d1, d2, d3, d4] }
  | _ => none }
def SealSealsWrongFalsely : Prop := sealSealsRow.holds Try.pinned (OpenSpec.ofChange sealSealsWrong)

/-- 'conclavelaw.SealOpens': WHATEVER THE INPUT: true; the input reads as it did. -/
def sealOpensSpec : ChangeSpec := { name := "sealOpens", fn := fun _ => fun
  | [d1, d2, d3, d4] => { results := [.lit (.bool true)], args := [d1, d2, d3, d4] }
  | _ => none }
def sealOpensRow : OpenClaim := { program := "ytjgbajgmndkfjaa", sum := "67c708bb285ad6474f0dde5ac5a82c84753a006e8c6c3c90f2008a7c0786de84", func := "conclave/conclavelaw.SealOpens", spec := "sealOpens", plainKeys := false, apart := false }
def SealOpensSaid : Prop := sealOpensRow.holds Try.pinned (OpenSpec.ofChange sealOpensSpec)

/-- ITS FALSE NEIGHBOUR: 'it returns false'. Refute it at one input. -/
def sealOpensWrong : ChangeSpec := { name := "sealOpens", fn := fun _ => fun
  | [d1, d2, d3, d4] => { results := [.lit (.bool false)], args := [d1, d2, d3, d4] }
  | _ => none }
def SealOpensWrongFalsely : Prop := sealOpensRow.holds Try.pinned (OpenSpec.ofChange sealOpensWrong)

/-- 'conclavelaw.PaxosAccepts': WHATEVER THE INPUT: true; the input reads as it did. -/
def paxosAcceptsSpec : ChangeSpec := { name := "paxosAccepts", fn := fun _ => fun
  | [d1, d2] => { results := [.lit (.bool true)], args := [d1, d2] }
  | _ => none }
def paxosAcceptsRow : OpenClaim := { program := "ytjgbajgmndkfjaa", sum := "67c708bb285ad6474f0dde5ac5a82c84753a006e8c6c3c90f2008a7c0786de84", func := "conclave/conclavelaw.PaxosAccepts", spec := "paxosAccepts", inPlace := ["slices.overlaps[conclave/api.Vote]"], unfollowed := true, recurses := true, plainKeys := false, apart := false }
def PaxosAcceptsSaid : Prop := paxosAcceptsRow.holds Try.pinned (OpenSpec.ofChange paxosAcceptsSpec)

/-- ITS FALSE NEIGHBOUR: 'it returns false'. Refute it at one input. -/
def paxosAcceptsWrong : ChangeSpec := { name := "paxosAccepts", fn := fun _ => fun
  | [d1, d2] => { results := [.lit (.bool false)], args := [d1, d2] }
  | _ => none }
def PaxosAcceptsWrongFalsely : Prop := paxosAcceptsRow.holds Try.pinned (OpenSpec.ofChange paxosAcceptsWrong)

/-- 'conclavelaw.LineSends': WHATEVER THE INPUT: true; the input reads as it did. -/
def lineSendsSpec : ChangeSpec := { name := "lineSends", fn := fun _ => fun
  | [d1, d2] => { results := [.lit (.bool true)], args := [d1, d2] }
  | _ => none }
def lineSendsRow : OpenClaim := { program := "ytjgbajgmndkfjaa", sum := "67c708bb285ad6474f0dde5ac5a82c84753a006e8c6c3c90f2008a7c0786de84", func := "conclave/conclavelaw.LineSends", spec := "lineSends", plainKeys := false, apart := false }
def LineSendsSaid : Prop := lineSendsRow.holds Try.pinned (OpenSpec.ofChange lineSendsSpec)

/-- ITS FALSE NEIGHBOUR: 'it returns false'. Refute it at one input. -/
def lineSendsWrong : ChangeSpec := { name := "lineSends", fn := fun _ => fun
  | [d1, d2] => { results := [.lit (.bool false)], args := [d1, d2] }
  | _ => none }
def LineSendsWrongFalsely : Prop := lineSendsRow.holds Try.pinned (OpenSpec.ofChange lineSendsWrong)

/-- 'conclavelaw.LineTakes': WHATEVER THE INPUT: true; the input reads as it did. -/
def lineTakesSpec : ChangeSpec := { name := "lineTakes", fn := fun _ => fun
  | [d1, d2] => { results := [.lit (.bool true)], args := [d1, d2] }
  | _ => none }
def lineTakesRow : OpenClaim := { program := "ytjgbajgmndkfjaa", sum := "67c708bb285ad6474f0dde5ac5a82c84753a006e8c6c3c90f2008a7c0786de84", func := "conclave/conclavelaw.LineTakes", spec := "lineTakes", plainKeys := false, apart := false }
def LineTakesSaid : Prop := lineTakesRow.holds Try.pinned (OpenSpec.ofChange lineTakesSpec)

/-- ITS FALSE NEIGHBOUR: 'it returns false'. Refute it at one input. -/
def lineTakesWrong : ChangeSpec := { name := "lineTakes", fn := fun _ => fun
  | [d1, d2] => { results := [.lit (.bool false)], args := [d1, d2] }
  | _ => none }
def LineTakesWrongFalsely : Prop := lineTakesRow.holds Try.pinned (OpenSpec.ofChange lineTakesWrong)

/- THE SECOND FORM. 'bulk': how many values and letters a reading holds, each counted each time it is reached (what is shared counts as often as it is met; a slice's spare places count too). A statement '..UptoSaid' is the law's where the arguments, and the package variables that the reading takes, are together of bulk at most 1048576: NARROWER than '..Said'. Prove '..Said' where nothing that the law and all that it calls make is longer than what came in: it says more and counts as full. Else prove '..UptoSaid'. A law counts once. -/
mutual
def uptoBulk {H : Type} : DataW H → Nat
  | .lit (.string bytes) => bytes.length + 1
  | .lit _ => 1
  | .nil => 1
  | .ptr d => uptoBulk d + 1
  | .slice elems spare => uptoBulkAll elems + uptoBulkAll spare + 1
  | .agg parts => uptoBulkAll parts + 1
  | .iface _ d => uptoBulk d + 1
  | .map entries => uptoBulkEntries entries + 1
  | .held _ => 1
def uptoBulkAll {H : Type} : List (DataW H) → Nat
  | [] => 0
  | d :: r => uptoBulk d + uptoBulkAll r
def uptoBulkEntries {H : Type} : List (Lit × DataW H) → Nat
  | [] => 0
  | x :: r => uptoBulkEntry x + uptoBulkEntries r
def uptoBulkEntry {H : Type} : Lit × DataW H → Nat
  | (.string bytes, d) => bytes.length + uptoBulk d + 1
  | (_, d) => uptoBulk d + 1
 end
def uptoSmall : (H : Type) → List (DataW H) → Bool := fun _ ds => decide (uptoBulkAll ds ≤ 1048576)
def OpenSpec.upto (s : _root_.Go.ChangeSpec) : _root_.Go.OpenSpec := { _root_.Go.OpenSpec.ofChange s with cond := some uptoSmall }

/-- 'conclavelaw.Names', WHERE WHAT IT READS IS OF BULK AT MOST 1048576: true; the input reads as it did. -/
def namesUptoRow : OpenClaim := { program := "ytjgbajgmndkfjaa", sum := "67c708bb285ad6474f0dde5ac5a82c84753a006e8c6c3c90f2008a7c0786de84", func := "conclave/conclavelaw.Names", spec := "names", plainKeys := false, apart := false, narrowed := true }
def NamesUptoSaid : Prop := namesUptoRow.holds Try.pinned (OpenSpec.upto namesSpec)

/-- 'conclavelaw.ShaSames', WHERE WHAT IT READS IS OF BULK AT MOST 1048576: true; the input reads as it did. -/
def shaSamesUptoRow : OpenClaim := { program := "ytjgbajgmndkfjaa", sum := "67c708bb285ad6474f0dde5ac5a82c84753a006e8c6c3c90f2008a7c0786de84", func := "conclave/conclavelaw.ShaSames", spec := "shaSames", plainKeys := false, apart := false, narrowed := true }
def ShaSamesUptoSaid : Prop := shaSamesUptoRow.holds Try.pinned (OpenSpec.upto shaSamesSpec)

/-- 'conclavelaw.VaultChecks', WHERE WHAT IT READS IS OF BULK AT MOST 1048576: true; the input reads as it did. -/
def vaultChecksUptoRow : OpenClaim := { program := "ytjgbajgmndkfjaa", sum := "67c708bb285ad6474f0dde5ac5a82c84753a006e8c6c3c90f2008a7c0786de84", func := "conclave/conclavelaw.VaultChecks", spec := "vaultChecks", plainKeys := false, apart := false, narrowed := true }
def VaultChecksUptoSaid : Prop := vaultChecksUptoRow.holds Try.pinned (OpenSpec.upto vaultChecksSpec)

/-- 'conclavelaw.LineChecks', WHERE WHAT IT READS IS OF BULK AT MOST 1048576: true; the input reads as it did. -/
def lineChecksUptoRow : OpenClaim := { program := "ytjgbajgmndkfjaa", sum := "67c708bb285ad6474f0dde5ac5a82c84753a006e8c6c3c90f2008a7c0786de84", func := "conclave/conclavelaw.LineChecks", spec := "lineChecks", plainKeys := false, apart := false, narrowed := true }
def LineChecksUptoSaid : Prop := lineChecksUptoRow.holds Try.pinned (OpenSpec.upto lineChecksSpec)

/-- 'conclavelaw.LineNews', WHERE WHAT IT READS IS OF BULK AT MOST 1048576: true; the input reads as it did. -/
def lineNewsUptoRow : OpenClaim := { program := "ytjgbajgmndkfjaa", sum := "67c708bb285ad6474f0dde5ac5a82c84753a006e8c6c3c90f2008a7c0786de84", func := "conclave/conclavelaw.LineNews", spec := "lineNews", plainKeys := false, apart := false, narrowed := true }
def LineNewsUptoSaid : Prop := lineNewsUptoRow.holds Try.pinned (OpenSpec.upto lineNewsSpec)

/-- 'conclavelaw.OrderChecks', WHERE WHAT IT READS IS OF BULK AT MOST 1048576: true; the input reads as it did. -/
def orderChecksUptoRow : OpenClaim := { program := "ytjgbajgmndkfjaa", sum := "67c708bb285ad6474f0dde5ac5a82c84753a006e8c6c3c90f2008a7c0786de84", func := "conclave/conclavelaw.OrderChecks", spec := "orderChecks", plainKeys := false, apart := false, narrowed := true }
def OrderChecksUptoSaid : Prop := orderChecksUptoRow.holds Try.pinned (OpenSpec.upto orderChecksSpec)

/-- 'conclavelaw.StableSyncs', WHERE WHAT IT READS IS OF BULK AT MOST 1048576: true; the input reads as it did. -/
def stableSyncsUptoRow : OpenClaim := { program := "ytjgbajgmndkfjaa", sum := "67c708bb285ad6474f0dde5ac5a82c84753a006e8c6c3c90f2008a7c0786de84", func := "conclave/conclavelaw.StableSyncs", spec := "stableSyncs", plainKeys := false, apart := false, narrowed := true }
def StableSyncsUptoSaid : Prop := stableSyncsUptoRow.holds Try.pinned (OpenSpec.upto stableSyncsSpec)

/-- 'conclavelaw.StableCrashes', WHERE WHAT IT READS IS OF BULK AT MOST 1048576: true; the input reads as it did. -/
def stableCrashesUptoRow : OpenClaim := { program := "ytjgbajgmndkfjaa", sum := "67c708bb285ad6474f0dde5ac5a82c84753a006e8c6c3c90f2008a7c0786de84", func := "conclave/conclavelaw.StableCrashes", spec := "stableCrashes", plainKeys := false, apart := false, narrowed := true }
def StableCrashesUptoSaid : Prop := stableCrashesUptoRow.holds Try.pinned (OpenSpec.upto stableCrashesSpec)

/-- 'conclavelaw.LinesChecks', WHERE WHAT IT READS IS OF BULK AT MOST 1048576: true; the input reads as it did. -/
def linesChecksUptoRow : OpenClaim := { program := "ytjgbajgmndkfjaa", sum := "67c708bb285ad6474f0dde5ac5a82c84753a006e8c6c3c90f2008a7c0786de84", func := "conclave/conclavelaw.LinesChecks", spec := "linesChecks", plainKeys := false, apart := false, narrowed := true }
def LinesChecksUptoSaid : Prop := linesChecksUptoRow.holds Try.pinned (OpenSpec.upto linesChecksSpec)

/-- 'conclavelaw.OrderEncodes', WHERE WHAT IT READS IS OF BULK AT MOST 1048576: true; the input reads as it did. -/
def orderEncodesUptoRow : OpenClaim := { program := "ytjgbajgmndkfjaa", sum := "67c708bb285ad6474f0dde5ac5a82c84753a006e8c6c3c90f2008a7c0786de84", func := "conclave/conclavelaw.OrderEncodes", spec := "orderEncodes", plainKeys := false, apart := false, narrowed := true }
def OrderEncodesUptoSaid : Prop := orderEncodesUptoRow.holds Try.pinned (OpenSpec.upto orderEncodesSpec)

/-- 'conclavelaw.OrderDecodes', WHERE WHAT IT READS IS OF BULK AT MOST 1048576: true; the input reads as it did. -/
def orderDecodesUptoRow : OpenClaim := { program := "ytjgbajgmndkfjaa", sum := "67c708bb285ad6474f0dde5ac5a82c84753a006e8c6c3c90f2008a7c0786de84", func := "conclave/conclavelaw.OrderDecodes", spec := "orderDecodes", plainKeys := false, apart := false, narrowed := true }
def OrderDecodesUptoSaid : Prop := orderDecodesUptoRow.holds Try.pinned (OpenSpec.upto orderDecodesSpec)

/-- 'conclavelaw.ChaBlocks', WHERE WHAT IT READS IS OF BULK AT MOST 1048576: true; the input reads as it did. -/
def chaBlocksUptoRow : OpenClaim := { program := "ytjgbajgmndkfjaa", sum := "67c708bb285ad6474f0dde5ac5a82c84753a006e8c6c3c90f2008a7c0786de84", func := "conclave/conclavelaw.ChaBlocks", spec := "chaBlocks", plainKeys := false, apart := false, narrowed := true }
def ChaBlocksUptoSaid : Prop := chaBlocksUptoRow.holds Try.pinned (OpenSpec.upto chaBlocksSpec)

/-- 'conclavelaw.ChaMixes', WHERE WHAT IT READS IS OF BULK AT MOST 1048576: true; the input reads as it did. -/
def chaMixesUptoRow : OpenClaim := { program := "ytjgbajgmndkfjaa", sum := "67c708bb285ad6474f0dde5ac5a82c84753a006e8c6c3c90f2008a7c0786de84", func := "conclave/conclavelaw.ChaMixes", spec := "chaMixes", plainKeys := false, apart := false, narrowed := true }
def ChaMixesUptoSaid : Prop := chaMixesUptoRow.holds Try.pinned (OpenSpec.upto chaMixesSpec)

/-- 'conclavelaw.VaultDoes', WHERE WHAT IT READS IS OF BULK AT MOST 1048576: true; the input reads as it did. -/
def vaultDoesUptoRow : OpenClaim := { program := "ytjgbajgmndkfjaa", sum := "67c708bb285ad6474f0dde5ac5a82c84753a006e8c6c3c90f2008a7c0786de84", func := "conclave/conclavelaw.VaultDoes", spec := "vaultDoes", plainKeys := false, apart := false, narrowed := true }
def VaultDoesUptoSaid : Prop := vaultDoesUptoRow.holds Try.pinned (OpenSpec.upto vaultDoesSpec)

/-- 'conclavelaw.PaxosChecks', WHERE WHAT IT READS IS OF BULK AT MOST 1048576: true; the input reads as it did. -/
def paxosChecksUptoRow : OpenClaim := { program := "ytjgbajgmndkfjaa", sum := "67c708bb285ad6474f0dde5ac5a82c84753a006e8c6c3c90f2008a7c0786de84", func := "conclave/conclavelaw.PaxosChecks", spec := "paxosChecks", plainKeys := false, apart := false, narrowed := true }
def PaxosChecksUptoSaid : Prop := paxosChecksUptoRow.holds Try.pinned (OpenSpec.upto paxosChecksSpec)

/-- 'conclavelaw.PaxosPicks', WHERE WHAT IT READS IS OF BULK AT MOST 1048576: true; the input reads as it did. -/
def paxosPicksUptoRow : OpenClaim := { program := "ytjgbajgmndkfjaa", sum := "67c708bb285ad6474f0dde5ac5a82c84753a006e8c6c3c90f2008a7c0786de84", func := "conclave/conclavelaw.PaxosPicks", spec := "paxosPicks", plainKeys := false, apart := false, narrowed := true }
def PaxosPicksUptoSaid : Prop := paxosPicksUptoRow.holds Try.pinned (OpenSpec.upto paxosPicksSpec)

/-- 'conclavelaw.PolyTags', WHERE WHAT IT READS IS OF BULK AT MOST 1048576: true; the input reads as it did. -/
def polyTagsUptoRow : OpenClaim := { program := "ytjgbajgmndkfjaa", sum := "67c708bb285ad6474f0dde5ac5a82c84753a006e8c6c3c90f2008a7c0786de84", func := "conclave/conclavelaw.PolyTags", spec := "polyTags", plainKeys := false, apart := false, narrowed := true }
def PolyTagsUptoSaid : Prop := polyTagsUptoRow.holds Try.pinned (OpenSpec.upto polyTagsSpec)

/-- 'conclavelaw.PaxosPromises', WHERE WHAT IT READS IS OF BULK AT MOST 1048576: true; the input reads as it did. -/
def paxosPromisesUptoRow : OpenClaim := { program := "ytjgbajgmndkfjaa", sum := "67c708bb285ad6474f0dde5ac5a82c84753a006e8c6c3c90f2008a7c0786de84", func := "conclave/conclavelaw.PaxosPromises", spec := "paxosPromises", plainKeys := false, apart := false, narrowed := true }
def PaxosPromisesUptoSaid : Prop := paxosPromisesUptoRow.holds Try.pinned (OpenSpec.upto paxosPromisesSpec)

/-- 'conclavelaw.PaxosChosens', WHERE WHAT IT READS IS OF BULK AT MOST 1048576: true; the input reads as it did. -/
def paxosChosensUptoRow : OpenClaim := { program := "ytjgbajgmndkfjaa", sum := "67c708bb285ad6474f0dde5ac5a82c84753a006e8c6c3c90f2008a7c0786de84", func := "conclave/conclavelaw.PaxosChosens", spec := "paxosChosens", plainKeys := false, apart := false, narrowed := true }
def PaxosChosensUptoSaid : Prop := paxosChosensUptoRow.holds Try.pinned (OpenSpec.upto paxosChosensSpec)

/-- 'conclavelaw.CurveShareds', WHERE WHAT IT READS IS OF BULK AT MOST 1048576: true; the input reads as it did. -/
def curveSharedsUptoRow : OpenClaim := { program := "ytjgbajgmndkfjaa", sum := "67c708bb285ad6474f0dde5ac5a82c84753a006e8c6c3c90f2008a7c0786de84", func := "conclave/conclavelaw.CurveShareds", spec := "curveShareds", plainKeys := false, apart := false, narrowed := true }
def CurveSharedsUptoSaid : Prop := curveSharedsUptoRow.holds Try.pinned (OpenSpec.upto curveSharedsSpec)

/-- 'conclavelaw.CurvePoints', WHERE WHAT IT READS IS OF BULK AT MOST 1048576: true; the input reads as it did. -/
def curvePointsUptoRow : OpenClaim := { program := "ytjgbajgmndkfjaa", sum := "67c708bb285ad6474f0dde5ac5a82c84753a006e8c6c3c90f2008a7c0786de84", func := "conclave/conclavelaw.CurvePoints", spec := "curvePoints", plainKeys := false, apart := false, narrowed := true }
def CurvePointsUptoSaid : Prop := curvePointsUptoRow.holds Try.pinned (OpenSpec.upto curvePointsSpec)

/-- 'conclavelaw.SealSeals', WHERE WHAT IT READS IS OF BULK AT MOST 1048576: true; the input reads as it did. -/
def sealSealsUptoRow : OpenClaim := { program := "ytjgbajgmndkfjaa", sum := "67c708bb285ad6474f0dde5ac5a82c84753a006e8c6c3c90f2008a7c0786de84", func := "conclave/conclavelaw.SealSeals", spec := "sealSeals", plainKeys := false, apart := false, narrowed := true }
def SealSealsUptoSaid : Prop := sealSealsUptoRow.holds Try.pinned (OpenSpec.upto sealSealsSpec)

/-- 'conclavelaw.SealOpens', WHERE WHAT IT READS IS OF BULK AT MOST 1048576: true; the input reads as it did. -/
def sealOpensUptoRow : OpenClaim := { program := "ytjgbajgmndkfjaa", sum := "67c708bb285ad6474f0dde5ac5a82c84753a006e8c6c3c90f2008a7c0786de84", func := "conclave/conclavelaw.SealOpens", spec := "sealOpens", plainKeys := false, apart := false, narrowed := true }
def SealOpensUptoSaid : Prop := sealOpensUptoRow.holds Try.pinned (OpenSpec.upto sealOpensSpec)

/-- 'conclavelaw.PaxosAccepts', WHERE WHAT IT READS IS OF BULK AT MOST 1048576: true; the input reads as it did. -/
def paxosAcceptsUptoRow : OpenClaim := { program := "ytjgbajgmndkfjaa", sum := "67c708bb285ad6474f0dde5ac5a82c84753a006e8c6c3c90f2008a7c0786de84", func := "conclave/conclavelaw.PaxosAccepts", spec := "paxosAccepts", inPlace := ["slices.overlaps[conclave/api.Vote]"], unfollowed := true, recurses := true, plainKeys := false, apart := false, narrowed := true }
def PaxosAcceptsUptoSaid : Prop := paxosAcceptsUptoRow.holds Try.pinned (OpenSpec.upto paxosAcceptsSpec)

/-- 'conclavelaw.LineSends', WHERE WHAT IT READS IS OF BULK AT MOST 1048576: true; the input reads as it did. -/
def lineSendsUptoRow : OpenClaim := { program := "ytjgbajgmndkfjaa", sum := "67c708bb285ad6474f0dde5ac5a82c84753a006e8c6c3c90f2008a7c0786de84", func := "conclave/conclavelaw.LineSends", spec := "lineSends", plainKeys := false, apart := false, narrowed := true }
def LineSendsUptoSaid : Prop := lineSendsUptoRow.holds Try.pinned (OpenSpec.upto lineSendsSpec)

/-- 'conclavelaw.LineTakes', WHERE WHAT IT READS IS OF BULK AT MOST 1048576: true; the input reads as it did. -/
def lineTakesUptoRow : OpenClaim := { program := "ytjgbajgmndkfjaa", sum := "67c708bb285ad6474f0dde5ac5a82c84753a006e8c6c3c90f2008a7c0786de84", func := "conclave/conclavelaw.LineTakes", spec := "lineTakes", plainKeys := false, apart := false, narrowed := true }
def LineTakesUptoSaid : Prop := lineTakesUptoRow.holds Try.pinned (OpenSpec.upto lineTakesSpec)

end Rows
end Go.Proofs.Ytjgbajgmndkfjaa
