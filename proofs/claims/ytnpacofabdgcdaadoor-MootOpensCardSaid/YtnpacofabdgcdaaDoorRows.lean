/-
  NARROWER THAN 'FOR EVERY INPUT', by the rows' own cells (each row's printed sentence says how): OrderAllows: laid · ShaSums: laid · ShaMacs: laid · ShaDraws: laid · MootIssuers: laid · MootKeys: laid · OrderGrants: laid · OrderProves: laid · VaultChains: laid · VaultAudits: laid · StablePromises: laid · LinesShows: laid · StableVotes: laid · StableRecovers: laid · StableRepairs: laid · MootPacks: laid · MootOpens: laid · LinesReads: laid.
  DERIVED. THE GIVEN ROWS OF THIS SEAT. 18 by the template 'for every input the law returns true; each argument reads behind the call as it read before'; 0 by the template 'total and deterministic' (their statements: YtnpacofabdgcdaaDoorTotals.lean).
  GIVEN WITH THE SEED: the statements are not yours to turn. If you find one false, say at which input.
  Laid BY PROGRAM, IN A SANDBOX (cutbox-rows.mjs): the forced cells as the released guide's own fill.sh prints them over the translation 75e5754a4c231b8e… (all of the seat's roots in one cut). By AI agents, Wed Nov 11 2026. No macro, syntax, notation, axiom, sorry.
-/
import Derived.Test.YtnpacofabdgcdaaDoorChecked
import GoSem.PinnedTables
import GoSem.Claim
import GoSem.ClaimJoined
import GoSem.ClaimMapViews
import Derived.JoinedTies
import Derived.KernelRfl
namespace Go.Proofs.YtnpacofabdgcdaaDoor
/- THE CELL 'sum', in the pinned program and in every row, IS THE sha256 OF THE DUMP (.gsa) THAT YtnpacofabdgcdaaDoorProg.lean LOADS. Nothing in Lean hashes anything: it is a label: what it is worth is what the hold of that sum in a sandbox is worth. -/
noncomputable def Tryd.pinned : Pinned := { name := "ytnpacofabdgcdaadoor", sum := "75e5754a4c231b8e7fa092410d5a25484abdd41d5adc75bcc63dc5ff7e311919", checked := Tryd.checked }
namespace Rows
def none {H : Type} : Left H := { results := [], args := [] }

/- WHAT THE LISTED PACKAGE-LEVEL VARIABLES READ AS WHEN THE CALL BEGINS. Each datum BY PROGRAM (the guide's laid-datum.mjs) off the statement by which the dump's own 'gosem.cut.vars' lays the variable. In a bare row this is a premise. The card (YtnpacofabdgcdaaDoorCards.lean) ties it to the program's text. -/
def laid_conclave_order_need {H : Type} : DataW H := .agg [.lit (.int .i64 0), .lit (.int .i64 2), .lit (.int .i64 1), .lit (.int .i64 4)]
def laid_conclave_sha_numbers {H : Type} : DataW H := .agg [.lit (.int .u32 1116352408), .lit (.int .u32 1899447441), .lit (.int .u32 3049323471), .lit (.int .u32 3921009573), .lit (.int .u32 961987163), .lit (.int .u32 1508970993), .lit (.int .u32 2453635748), .lit (.int .u32 2870763221), .lit (.int .u32 3624381080), .lit (.int .u32 310598401), .lit (.int .u32 607225278), .lit (.int .u32 1426881987), .lit (.int .u32 1925078388), .lit (.int .u32 2162078206), .lit (.int .u32 2614888103), .lit (.int .u32 3248222580), .lit (.int .u32 3835390401), .lit (.int .u32 4022224774), .lit (.int .u32 264347078), .lit (.int .u32 604807628), .lit (.int .u32 770255983), .lit (.int .u32 1249150122), .lit (.int .u32 1555081692), .lit (.int .u32 1996064986), .lit (.int .u32 2554220882), .lit (.int .u32 2821834349), .lit (.int .u32 2952996808), .lit (.int .u32 3210313671), .lit (.int .u32 3336571891), .lit (.int .u32 3584528711), .lit (.int .u32 113926993), .lit (.int .u32 338241895), .lit (.int .u32 666307205), .lit (.int .u32 773529912), .lit (.int .u32 1294757372), .lit (.int .u32 1396182291), .lit (.int .u32 1695183700), .lit (.int .u32 1986661051), .lit (.int .u32 2177026350), .lit (.int .u32 2456956037), .lit (.int .u32 2730485921), .lit (.int .u32 2820302411), .lit (.int .u32 3259730800), .lit (.int .u32 3345764771), .lit (.int .u32 3516065817), .lit (.int .u32 3600352804), .lit (.int .u32 4094571909), .lit (.int .u32 275423344), .lit (.int .u32 430227734), .lit (.int .u32 506948616), .lit (.int .u32 659060556), .lit (.int .u32 883997877), .lit (.int .u32 958139571), .lit (.int .u32 1322822218), .lit (.int .u32 1537002063), .lit (.int .u32 1747873779), .lit (.int .u32 1955562222), .lit (.int .u32 2024104815), .lit (.int .u32 2227730452), .lit (.int .u32 2361852424), .lit (.int .u32 2428436474), .lit (.int .u32 2756734187), .lit (.int .u32 3204031479), .lit (.int .u32 3329325298)]
def laid_math_bits_deBruijn32tab {H : Type} : DataW H := .agg [.lit (.int .u8 0), .lit (.int .u8 1), .lit (.int .u8 28), .lit (.int .u8 2), .lit (.int .u8 29), .lit (.int .u8 14), .lit (.int .u8 24), .lit (.int .u8 3), .lit (.int .u8 30), .lit (.int .u8 22), .lit (.int .u8 20), .lit (.int .u8 15), .lit (.int .u8 25), .lit (.int .u8 17), .lit (.int .u8 4), .lit (.int .u8 8), .lit (.int .u8 31), .lit (.int .u8 27), .lit (.int .u8 13), .lit (.int .u8 23), .lit (.int .u8 21), .lit (.int .u8 19), .lit (.int .u8 16), .lit (.int .u8 7), .lit (.int .u8 26), .lit (.int .u8 12), .lit (.int .u8 18), .lit (.int .u8 6), .lit (.int .u8 11), .lit (.int .u8 5), .lit (.int .u8 10), .lit (.int .u8 9)]
def laid_math_bits_deBruijn64tab {H : Type} : DataW H := .agg [.lit (.int .u8 0), .lit (.int .u8 1), .lit (.int .u8 56), .lit (.int .u8 2), .lit (.int .u8 57), .lit (.int .u8 49), .lit (.int .u8 28), .lit (.int .u8 3), .lit (.int .u8 61), .lit (.int .u8 58), .lit (.int .u8 42), .lit (.int .u8 50), .lit (.int .u8 38), .lit (.int .u8 29), .lit (.int .u8 17), .lit (.int .u8 4), .lit (.int .u8 62), .lit (.int .u8 47), .lit (.int .u8 59), .lit (.int .u8 36), .lit (.int .u8 45), .lit (.int .u8 43), .lit (.int .u8 51), .lit (.int .u8 22), .lit (.int .u8 53), .lit (.int .u8 39), .lit (.int .u8 33), .lit (.int .u8 30), .lit (.int .u8 24), .lit (.int .u8 18), .lit (.int .u8 12), .lit (.int .u8 5), .lit (.int .u8 63), .lit (.int .u8 55), .lit (.int .u8 48), .lit (.int .u8 27), .lit (.int .u8 60), .lit (.int .u8 41), .lit (.int .u8 37), .lit (.int .u8 16), .lit (.int .u8 46), .lit (.int .u8 35), .lit (.int .u8 44), .lit (.int .u8 21), .lit (.int .u8 52), .lit (.int .u8 32), .lit (.int .u8 23), .lit (.int .u8 11), .lit (.int .u8 54), .lit (.int .u8 26), .lit (.int .u8 40), .lit (.int .u8 15), .lit (.int .u8 34), .lit (.int .u8 20), .lit (.int .u8 31), .lit (.int .u8 10), .lit (.int .u8 25), .lit (.int .u8 14), .lit (.int .u8 19), .lit (.int .u8 9), .lit (.int .u8 13), .lit (.int .u8 8), .lit (.int .u8 7), .lit (.int .u8 6)]
def laid_internal_strconv_uint64pow10 {H : Type} : DataW H := .agg [.lit (.int .u64 1), .lit (.int .u64 10), .lit (.int .u64 100), .lit (.int .u64 1000), .lit (.int .u64 10000), .lit (.int .u64 100000), .lit (.int .u64 1000000), .lit (.int .u64 10000000), .lit (.int .u64 100000000), .lit (.int .u64 1000000000), .lit (.int .u64 10000000000), .lit (.int .u64 100000000000), .lit (.int .u64 1000000000000), .lit (.int .u64 10000000000000), .lit (.int .u64 100000000000000), .lit (.int .u64 1000000000000000), .lit (.int .u64 10000000000000000), .lit (.int .u64 100000000000000000), .lit (.int .u64 1000000000000000000), .lit (.int .u64 10000000000000000000)]
def laid_conclave_lines_words {H : Type} : DataW H := .agg [.lit (.string []), .lit (.string [115, 117, 98, 109, 105, 116]), .lit (.string [108, 101, 97, 100]), .lit (.string [115, 116, 101, 112]), .lit (.string [99, 97, 114, 114, 121]), .lit (.string [108, 111, 115, 101]), .lit (.string [100, 111, 117, 98, 108, 101]), .lit (.string [97, 108, 108]), .lit (.string [99, 114, 97, 115, 104]), .lit (.string [115, 116, 97, 114, 116])]
def laid_unicode_utf8_acceptRanges {H : Type} : DataW H := .agg [.agg [.lit (.int .u8 128), .lit (.int .u8 191)], .agg [.lit (.int .u8 160), .lit (.int .u8 191)], .agg [.lit (.int .u8 128), .lit (.int .u8 159)], .agg [.lit (.int .u8 144), .lit (.int .u8 191)], .agg [.lit (.int .u8 128), .lit (.int .u8 143)], .agg [.lit (.int .u8 0), .lit (.int .u8 0)], .agg [.lit (.int .u8 0), .lit (.int .u8 0)], .agg [.lit (.int .u8 0), .lit (.int .u8 0)], .agg [.lit (.int .u8 0), .lit (.int .u8 0)], .agg [.lit (.int .u8 0), .lit (.int .u8 0)], .agg [.lit (.int .u8 0), .lit (.int .u8 0)], .agg [.lit (.int .u8 0), .lit (.int .u8 0)], .agg [.lit (.int .u8 0), .lit (.int .u8 0)], .agg [.lit (.int .u8 0), .lit (.int .u8 0)], .agg [.lit (.int .u8 0), .lit (.int .u8 0)], .agg [.lit (.int .u8 0), .lit (.int .u8 0)]]
def laid_strconv_ErrRange {H : Type} : DataW H := .iface "*errors.errorString" (.ptr (.agg [.lit (.string [118, 97, 108, 117, 101, 32, 111, 117, 116, 32, 111, 102, 32, 114, 97, 110, 103, 101])]))
def laid_strconv_ErrSyntax {H : Type} : DataW H := .iface "*errors.errorString" (.ptr (.agg [.lit (.string [105, 110, 118, 97, 108, 105, 100, 32, 115, 121, 110, 116, 97, 120])]))
/-- One of Go's own tables, pinned by name: the form's constant. -/
def laid_unicode_utf8_first : DataW Unit := Go.Pinned.utf8First

/-- 'conclavelaw.OrderAllows': WHATEVER THE INPUT: true; the input reads as it did. -/
def orderAllowsSpec : ChangeSpec := { name := "orderAllows", fn := fun _ => fun
  | [d1, d2, d3] => { results := [.lit (.bool true)], args := [d1, d2, d3] }
  | _ => none }
def orderAllowsRow : OpenClaim := { program := "ytnpacofabdgcdaadoor", sum := "75e5754a4c231b8e7fa092410d5a25484abdd41d5adc75bcc63dc5ff7e311919", func := "conclave/conclavelaw.OrderAllows", spec := "orderAllows", named := ["conclave/order.need"], apart := false, laid := [("conclave/order.need", laid_conclave_order_need)] }
def OrderAllowsSaid : Prop := orderAllowsRow.holds Tryd.pinned (OpenSpec.ofChange orderAllowsSpec)

/-- ITS FALSE NEIGHBOUR: 'it returns false'. Refute it at one input. -/
def orderAllowsWrong : ChangeSpec := { name := "orderAllows", fn := fun _ => fun
  | [d1, d2, d3] => { results := [.lit (.bool false)], args := [d1, d2, d3] }
  | _ => none }
def OrderAllowsWrongFalsely : Prop := orderAllowsRow.holds Tryd.pinned (OpenSpec.ofChange orderAllowsWrong)

/-- 'conclavelaw.ShaSums': WHATEVER THE INPUT: true; the input reads as it did. -/
def shaSumsSpec : ChangeSpec := { name := "shaSums", fn := fun _ => fun
  | [d] => { results := [.lit (.bool true)], args := [d] }
  | _ => none }
def shaSumsRow : OpenClaim := { program := "ytnpacofabdgcdaadoor", sum := "75e5754a4c231b8e7fa092410d5a25484abdd41d5adc75bcc63dc5ff7e311919", func := "conclave/conclavelaw.ShaSums", spec := "shaSums", named := ["conclave/sha.numbers"], apart := false, laid := [("conclave/sha.numbers", laid_conclave_sha_numbers)] }
def ShaSumsSaid : Prop := shaSumsRow.holds Tryd.pinned (OpenSpec.ofChange shaSumsSpec)

/-- ITS FALSE NEIGHBOUR: 'it returns false'. Refute it at one input. -/
def shaSumsWrong : ChangeSpec := { name := "shaSums", fn := fun _ => fun
  | [d] => { results := [.lit (.bool false)], args := [d] }
  | _ => none }
def ShaSumsWrongFalsely : Prop := shaSumsRow.holds Tryd.pinned (OpenSpec.ofChange shaSumsWrong)

/-- 'conclavelaw.ShaMacs': WHATEVER THE INPUT: true; the input reads as it did. -/
def shaMacsSpec : ChangeSpec := { name := "shaMacs", fn := fun _ => fun
  | [d1, d2] => { results := [.lit (.bool true)], args := [d1, d2] }
  | _ => none }
def shaMacsRow : OpenClaim := { program := "ytnpacofabdgcdaadoor", sum := "75e5754a4c231b8e7fa092410d5a25484abdd41d5adc75bcc63dc5ff7e311919", func := "conclave/conclavelaw.ShaMacs", spec := "shaMacs", named := ["conclave/sha.numbers"], apart := false, laid := [("conclave/sha.numbers", laid_conclave_sha_numbers)] }
def ShaMacsSaid : Prop := shaMacsRow.holds Tryd.pinned (OpenSpec.ofChange shaMacsSpec)

/-- ITS FALSE NEIGHBOUR: 'it returns false'. Refute it at one input. -/
def shaMacsWrong : ChangeSpec := { name := "shaMacs", fn := fun _ => fun
  | [d1, d2] => { results := [.lit (.bool false)], args := [d1, d2] }
  | _ => none }
def ShaMacsWrongFalsely : Prop := shaMacsRow.holds Tryd.pinned (OpenSpec.ofChange shaMacsWrong)

/-- 'conclavelaw.ShaDraws': WHATEVER THE INPUT: true; the input reads as it did. -/
def shaDrawsSpec : ChangeSpec := { name := "shaDraws", fn := fun _ => fun
  | [d1, d2, d3, d4] => { results := [.lit (.bool true)], args := [d1, d2, d3, d4] }
  | _ => none }
def shaDrawsRow : OpenClaim := { program := "ytnpacofabdgcdaadoor", sum := "75e5754a4c231b8e7fa092410d5a25484abdd41d5adc75bcc63dc5ff7e311919", func := "conclave/conclavelaw.ShaDraws", spec := "shaDraws", named := ["conclave/sha.numbers"], apart := false, laid := [("conclave/sha.numbers", laid_conclave_sha_numbers)] }
def ShaDrawsSaid : Prop := shaDrawsRow.holds Tryd.pinned (OpenSpec.ofChange shaDrawsSpec)

/-- ITS FALSE NEIGHBOUR: 'it returns false'. Refute it at one input. -/
def shaDrawsWrong : ChangeSpec := { name := "shaDraws", fn := fun _ => fun
  | [d1, d2, d3, d4] => { results := [.lit (.bool false)], args := [d1, d2, d3, d4] }
  | _ => none }
def ShaDrawsWrongFalsely : Prop := shaDrawsRow.holds Tryd.pinned (OpenSpec.ofChange shaDrawsWrong)

/-- 'conclavelaw.MootIssuers': WHATEVER THE INPUT: true; the input reads as it did. -/
def mootIssuersSpec : ChangeSpec := { name := "mootIssuers", fn := fun _ => fun
  | [] => { results := [.lit (.bool true)], args := [] }
  | _ => none }
def mootIssuersRow : OpenClaim := { program := "ytnpacofabdgcdaadoor", sum := "75e5754a4c231b8e7fa092410d5a25484abdd41d5adc75bcc63dc5ff7e311919", func := "conclave/conclavelaw.MootIssuers", spec := "mootIssuers", named := ["conclave/sha.numbers"], apart := false, laid := [("conclave/sha.numbers", laid_conclave_sha_numbers)] }
def MootIssuersSaid : Prop := mootIssuersRow.holds Tryd.pinned (OpenSpec.ofChange mootIssuersSpec)

/-- ITS FALSE NEIGHBOUR: 'it returns false'. Refute it at one input. -/
def mootIssuersWrong : ChangeSpec := { name := "mootIssuers", fn := fun _ => fun
  | [] => { results := [.lit (.bool false)], args := [] }
  | _ => none }
def MootIssuersWrongFalsely : Prop := mootIssuersRow.holds Tryd.pinned (OpenSpec.ofChange mootIssuersWrong)

/-- 'conclavelaw.MootKeys': WHATEVER THE INPUT: true; the input reads as it did. -/
def mootKeysSpec : ChangeSpec := { name := "mootKeys", fn := fun _ => fun
  | [d] => { results := [.lit (.bool true)], args := [d] }
  | _ => none }
def mootKeysRow : OpenClaim := { program := "ytnpacofabdgcdaadoor", sum := "75e5754a4c231b8e7fa092410d5a25484abdd41d5adc75bcc63dc5ff7e311919", func := "conclave/conclavelaw.MootKeys", spec := "mootKeys", named := ["conclave/sha.numbers"], apart := false, laid := [("conclave/sha.numbers", laid_conclave_sha_numbers)] }
def MootKeysSaid : Prop := mootKeysRow.holds Tryd.pinned (OpenSpec.ofChange mootKeysSpec)

/-- ITS FALSE NEIGHBOUR: 'it returns false'. Refute it at one input. -/
def mootKeysWrong : ChangeSpec := { name := "mootKeys", fn := fun _ => fun
  | [d] => { results := [.lit (.bool false)], args := [d] }
  | _ => none }
def MootKeysWrongFalsely : Prop := mootKeysRow.holds Tryd.pinned (OpenSpec.ofChange mootKeysWrong)

/-- 'conclavelaw.OrderGrants': WHATEVER THE INPUT: true; the input reads as it did. -/
def orderGrantsSpec : ChangeSpec := { name := "orderGrants", fn := fun _ => fun
  | [d1, d2] => { results := [.lit (.bool true)], args := [d1, d2] }
  | _ => none }
def orderGrantsRow : OpenClaim := { program := "ytnpacofabdgcdaadoor", sum := "75e5754a4c231b8e7fa092410d5a25484abdd41d5adc75bcc63dc5ff7e311919", func := "conclave/conclavelaw.OrderGrants", spec := "orderGrants", named := ["conclave/sha.numbers"], apart := false, laid := [("conclave/sha.numbers", laid_conclave_sha_numbers)] }
def OrderGrantsSaid : Prop := orderGrantsRow.holds Tryd.pinned (OpenSpec.ofChange orderGrantsSpec)

/-- ITS FALSE NEIGHBOUR: 'it returns false'. Refute it at one input. -/
def orderGrantsWrong : ChangeSpec := { name := "orderGrants", fn := fun _ => fun
  | [d1, d2] => { results := [.lit (.bool false)], args := [d1, d2] }
  | _ => none }
def OrderGrantsWrongFalsely : Prop := orderGrantsRow.holds Tryd.pinned (OpenSpec.ofChange orderGrantsWrong)

/-- 'conclavelaw.OrderProves': WHATEVER THE INPUT: true; the input reads as it did. -/
def orderProvesSpec : ChangeSpec := { name := "orderProves", fn := fun _ => fun
  | [d1, d2] => { results := [.lit (.bool true)], args := [d1, d2] }
  | _ => none }
def orderProvesRow : OpenClaim := { program := "ytnpacofabdgcdaadoor", sum := "75e5754a4c231b8e7fa092410d5a25484abdd41d5adc75bcc63dc5ff7e311919", func := "conclave/conclavelaw.OrderProves", spec := "orderProves", named := ["conclave/sha.numbers"], apart := false, laid := [("conclave/sha.numbers", laid_conclave_sha_numbers)] }
def OrderProvesSaid : Prop := orderProvesRow.holds Tryd.pinned (OpenSpec.ofChange orderProvesSpec)

/-- ITS FALSE NEIGHBOUR: 'it returns false'. Refute it at one input. -/
def orderProvesWrong : ChangeSpec := { name := "orderProves", fn := fun _ => fun
  | [d1, d2] => { results := [.lit (.bool false)], args := [d1, d2] }
  | _ => none }
def OrderProvesWrongFalsely : Prop := orderProvesRow.holds Tryd.pinned (OpenSpec.ofChange orderProvesWrong)

/-- 'conclavelaw.VaultChains': WHATEVER THE INPUT: true; the input reads as it did. -/
def vaultChainsSpec : ChangeSpec := { name := "vaultChains", fn := fun _ => fun
  | [d] => { results := [.lit (.bool true)], args := [d] }
  | _ => none }
def vaultChainsRow : OpenClaim := { program := "ytnpacofabdgcdaadoor", sum := "75e5754a4c231b8e7fa092410d5a25484abdd41d5adc75bcc63dc5ff7e311919", func := "conclave/conclavelaw.VaultChains", spec := "vaultChains", named := ["conclave/sha.numbers"], apart := false, laid := [("conclave/sha.numbers", laid_conclave_sha_numbers)] }
def VaultChainsSaid : Prop := vaultChainsRow.holds Tryd.pinned (OpenSpec.ofChange vaultChainsSpec)

/-- ITS FALSE NEIGHBOUR: 'it returns false'. Refute it at one input. -/
def vaultChainsWrong : ChangeSpec := { name := "vaultChains", fn := fun _ => fun
  | [d] => { results := [.lit (.bool false)], args := [d] }
  | _ => none }
def VaultChainsWrongFalsely : Prop := vaultChainsRow.holds Tryd.pinned (OpenSpec.ofChange vaultChainsWrong)

/-- 'conclavelaw.VaultAudits': WHATEVER THE INPUT: true; the input reads as it did. -/
def vaultAuditsSpec : ChangeSpec := { name := "vaultAudits", fn := fun _ => fun
  | [d] => { results := [.lit (.bool true)], args := [d] }
  | _ => none }
def vaultAuditsRow : OpenClaim := { program := "ytnpacofabdgcdaadoor", sum := "75e5754a4c231b8e7fa092410d5a25484abdd41d5adc75bcc63dc5ff7e311919", func := "conclave/conclavelaw.VaultAudits", spec := "vaultAudits", named := ["conclave/sha.numbers"], apart := false, laid := [("conclave/sha.numbers", laid_conclave_sha_numbers)] }
def VaultAuditsSaid : Prop := vaultAuditsRow.holds Tryd.pinned (OpenSpec.ofChange vaultAuditsSpec)

/-- ITS FALSE NEIGHBOUR: 'it returns false'. Refute it at one input. -/
def vaultAuditsWrong : ChangeSpec := { name := "vaultAudits", fn := fun _ => fun
  | [d] => { results := [.lit (.bool false)], args := [d] }
  | _ => none }
def VaultAuditsWrongFalsely : Prop := vaultAuditsRow.holds Tryd.pinned (OpenSpec.ofChange vaultAuditsWrong)

/-- 'conclavelaw.StablePromises': WHATEVER THE INPUT: true; the input reads as it did. -/
def stablePromisesSpec : ChangeSpec := { name := "stablePromises", fn := fun _ => fun
  | [d1, d2] => { results := [.lit (.bool true)], args := [d1, d2] }
  | _ => none }
def stablePromisesRow : OpenClaim := { program := "ytnpacofabdgcdaadoor", sum := "75e5754a4c231b8e7fa092410d5a25484abdd41d5adc75bcc63dc5ff7e311919", func := "conclave/conclavelaw.StablePromises", spec := "stablePromises", named := ["conclave/sha.numbers"], apart := false, laid := [("conclave/sha.numbers", laid_conclave_sha_numbers)] }
def StablePromisesSaid : Prop := stablePromisesRow.holds Tryd.pinned (OpenSpec.ofChange stablePromisesSpec)

/-- ITS FALSE NEIGHBOUR: 'it returns false'. Refute it at one input. -/
def stablePromisesWrong : ChangeSpec := { name := "stablePromises", fn := fun _ => fun
  | [d1, d2] => { results := [.lit (.bool false)], args := [d1, d2] }
  | _ => none }
def StablePromisesWrongFalsely : Prop := stablePromisesRow.holds Tryd.pinned (OpenSpec.ofChange stablePromisesWrong)

/-- 'conclavelaw.LinesShows': WHATEVER THE INPUT: true; the input reads as it did. -/
def linesShowsSpec : ChangeSpec := { name := "linesShows", fn := fun _ => fun
  | [d] => { results := [.lit (.bool true)], args := [d] }
  | _ => none }
def linesShowsRow : OpenClaim := { program := "ytnpacofabdgcdaadoor", sum := "75e5754a4c231b8e7fa092410d5a25484abdd41d5adc75bcc63dc5ff7e311919", func := "conclave/conclavelaw.LinesShows", spec := "linesShows", inPlace := ["internal/abi.NoEscape"], unfollowed := true, recurses := true, named := ["conclave/lines.words", "internal/strconv.uint64pow10", "math/bits.deBruijn32tab", "math/bits.deBruijn64tab"], apart := false, laid := [("math/bits.deBruijn32tab", laid_math_bits_deBruijn32tab), ("math/bits.deBruijn64tab", laid_math_bits_deBruijn64tab), ("internal/strconv.uint64pow10", laid_internal_strconv_uint64pow10), ("conclave/lines.words", laid_conclave_lines_words)] }
def LinesShowsSaid : Prop := linesShowsRow.holds Tryd.pinned (OpenSpec.ofChange linesShowsSpec)

/-- ITS FALSE NEIGHBOUR: 'it returns false'. Refute it at one input. -/
def linesShowsWrong : ChangeSpec := { name := "linesShows", fn := fun _ => fun
  | [d] => { results := [.lit (.bool false)], args := [d] }
  | _ => none }
def LinesShowsWrongFalsely : Prop := linesShowsRow.holds Tryd.pinned (OpenSpec.ofChange linesShowsWrong)

/-- 'conclavelaw.StableVotes': WHATEVER THE INPUT: true; the input reads as it did. -/
def stableVotesSpec : ChangeSpec := { name := "stableVotes", fn := fun _ => fun
  | [d1, d2] => { results := [.lit (.bool true)], args := [d1, d2] }
  | _ => none }
def stableVotesRow : OpenClaim := { program := "ytnpacofabdgcdaadoor", sum := "75e5754a4c231b8e7fa092410d5a25484abdd41d5adc75bcc63dc5ff7e311919", func := "conclave/conclavelaw.StableVotes", spec := "stableVotes", inPlace := ["slices.overlaps[conclave/api.Vote]"], unfollowed := true, recurses := true, named := ["conclave/sha.numbers"], apart := false, laid := [("conclave/sha.numbers", laid_conclave_sha_numbers)] }
def StableVotesSaid : Prop := stableVotesRow.holds Tryd.pinned (OpenSpec.ofChange stableVotesSpec)

/-- ITS FALSE NEIGHBOUR: 'it returns false'. Refute it at one input. -/
def stableVotesWrong : ChangeSpec := { name := "stableVotes", fn := fun _ => fun
  | [d1, d2] => { results := [.lit (.bool false)], args := [d1, d2] }
  | _ => none }
def StableVotesWrongFalsely : Prop := stableVotesRow.holds Tryd.pinned (OpenSpec.ofChange stableVotesWrong)

/-- 'conclavelaw.StableRecovers': WHATEVER THE INPUT: true; the input reads as it did. -/
def stableRecoversSpec : ChangeSpec := { name := "stableRecovers", fn := fun _ => fun
  | [d] => { results := [.lit (.bool true)], args := [d] }
  | _ => none }
def stableRecoversRow : OpenClaim := { program := "ytnpacofabdgcdaadoor", sum := "75e5754a4c231b8e7fa092410d5a25484abdd41d5adc75bcc63dc5ff7e311919", func := "conclave/conclavelaw.StableRecovers", spec := "stableRecovers", inPlace := ["slices.overlaps[conclave/api.Vote]"], unfollowed := true, recurses := true, named := ["conclave/sha.numbers"], apart := false, laid := [("conclave/sha.numbers", laid_conclave_sha_numbers)] }
def StableRecoversSaid : Prop := stableRecoversRow.holds Tryd.pinned (OpenSpec.ofChange stableRecoversSpec)

/-- ITS FALSE NEIGHBOUR: 'it returns false'. Refute it at one input. -/
def stableRecoversWrong : ChangeSpec := { name := "stableRecovers", fn := fun _ => fun
  | [d] => { results := [.lit (.bool false)], args := [d] }
  | _ => none }
def StableRecoversWrongFalsely : Prop := stableRecoversRow.holds Tryd.pinned (OpenSpec.ofChange stableRecoversWrong)

/-- 'conclavelaw.StableRepairs': WHATEVER THE INPUT: true; the input reads as it did. -/
def stableRepairsSpec : ChangeSpec := { name := "stableRepairs", fn := fun _ => fun
  | [d] => { results := [.lit (.bool true)], args := [d] }
  | _ => none }
def stableRepairsRow : OpenClaim := { program := "ytnpacofabdgcdaadoor", sum := "75e5754a4c231b8e7fa092410d5a25484abdd41d5adc75bcc63dc5ff7e311919", func := "conclave/conclavelaw.StableRepairs", spec := "stableRepairs", inPlace := ["slices.overlaps[conclave/api.Vote]"], unfollowed := true, recurses := true, named := ["conclave/sha.numbers"], apart := false, laid := [("conclave/sha.numbers", laid_conclave_sha_numbers)] }
def StableRepairsSaid : Prop := stableRepairsRow.holds Tryd.pinned (OpenSpec.ofChange stableRepairsSpec)

/-- ITS FALSE NEIGHBOUR: 'it returns false'. Refute it at one input. -/
def stableRepairsWrong : ChangeSpec := { name := "stableRepairs", fn := fun _ => fun
  | [d] => { results := [.lit (.bool false)], args := [d] }
  | _ => none }
def StableRepairsWrongFalsely : Prop := stableRepairsRow.holds Tryd.pinned (OpenSpec.ofChange stableRepairsWrong)

/-- 'conclavelaw.MootPacks': WHATEVER THE INPUT: true; the input reads as it did. -/
def mootPacksSpec : ChangeSpec := { name := "mootPacks", fn := fun _ => fun
  | [d1, d2, d3] => { results := [.lit (.bool true)], args := [d1, d2, d3] }
  | _ => none }
def mootPacksRow : OpenClaim := { program := "ytnpacofabdgcdaadoor", sum := "75e5754a4c231b8e7fa092410d5a25484abdd41d5adc75bcc63dc5ff7e311919", func := "conclave/conclavelaw.MootPacks", spec := "mootPacks", named := ["conclave/sha.numbers"], apart := false, laid := [("conclave/sha.numbers", laid_conclave_sha_numbers)] }
def MootPacksSaid : Prop := mootPacksRow.holds Tryd.pinned (OpenSpec.ofChange mootPacksSpec)

/-- ITS FALSE NEIGHBOUR: 'it returns false'. Refute it at one input. -/
def mootPacksWrong : ChangeSpec := { name := "mootPacks", fn := fun _ => fun
  | [d1, d2, d3] => { results := [.lit (.bool false)], args := [d1, d2, d3] }
  | _ => none }
def MootPacksWrongFalsely : Prop := mootPacksRow.holds Tryd.pinned (OpenSpec.ofChange mootPacksWrong)

/-- 'conclavelaw.MootOpens': WHATEVER THE INPUT: true; the input reads as it did. -/
def mootOpensSpec : ChangeSpec := { name := "mootOpens", fn := fun _ => fun
  | [d1, d2] => { results := [.lit (.bool true)], args := [d1, d2] }
  | _ => none }
def mootOpensRow : OpenClaim := { program := "ytnpacofabdgcdaadoor", sum := "75e5754a4c231b8e7fa092410d5a25484abdd41d5adc75bcc63dc5ff7e311919", func := "conclave/conclavelaw.MootOpens", spec := "mootOpens", named := ["conclave/sha.numbers", "conclave/order.need"], apart := false, laid := [("conclave/sha.numbers", laid_conclave_sha_numbers), ("conclave/order.need", laid_conclave_order_need)] }
def MootOpensSaid : Prop := mootOpensRow.holds Tryd.pinned (OpenSpec.ofChange mootOpensSpec)

/-- ITS FALSE NEIGHBOUR: 'it returns false'. Refute it at one input. -/
def mootOpensWrong : ChangeSpec := { name := "mootOpens", fn := fun _ => fun
  | [d1, d2] => { results := [.lit (.bool false)], args := [d1, d2] }
  | _ => none }
def MootOpensWrongFalsely : Prop := mootOpensRow.holds Tryd.pinned (OpenSpec.ofChange mootOpensWrong)

/-- 'conclavelaw.LinesReads': WHATEVER THE INPUT: true; the input reads as it did. -/
def linesReadsSpec : ChangeSpec := { name := "linesReads", fn := fun _ => fun
  | [d] => { results := [.lit (.bool true)], args := [d] }
  | _ => none }
def linesReadsRow : OpenClaim := { program := "ytnpacofabdgcdaadoor", sum := "75e5754a4c231b8e7fa092410d5a25484abdd41d5adc75bcc63dc5ff7e311919", func := "conclave/conclavelaw.LinesReads", spec := "linesReads", inPlace := ["internal/bytealg.IndexByteString", "internal/bytealg.CountString", "internal/bytealg.IndexString", "internal/abi.NoEscape"], unfollowed := true, recurses := true, named := ["conclave/lines.words", "unicode/utf8.first", "unicode/utf8.acceptRanges", "internal/bytealg.MaxLen", "strconv.ErrSyntax", "strconv.ErrRange", "internal/strconv.uint64pow10", "math/bits.deBruijn32tab", "math/bits.deBruijn64tab"], apart := false, laid := [("math/bits.deBruijn32tab", laid_math_bits_deBruijn32tab), ("math/bits.deBruijn64tab", laid_math_bits_deBruijn64tab), ("internal/strconv.uint64pow10", laid_internal_strconv_uint64pow10), ("unicode/utf8.acceptRanges", laid_unicode_utf8_acceptRanges), ("strconv.ErrRange", laid_strconv_ErrRange), ("strconv.ErrSyntax", laid_strconv_ErrSyntax), ("conclave/lines.words", laid_conclave_lines_words), ("unicode/utf8.first", laid_unicode_utf8_first)] }
def LinesReadsSaid : Prop := linesReadsRow.holds Tryd.pinned (OpenSpec.ofChange linesReadsSpec)

/-- ITS FALSE NEIGHBOUR: 'it returns false'. Refute it at one input. -/
def linesReadsWrong : ChangeSpec := { name := "linesReads", fn := fun _ => fun
  | [d] => { results := [.lit (.bool false)], args := [d] }
  | _ => none }
def LinesReadsWrongFalsely : Prop := linesReadsRow.holds Tryd.pinned (OpenSpec.ofChange linesReadsWrong)

/- THE SECOND FORM. 'bulk': how many values and letters a reading holds, each counted each time it is reached (what is shared counts as often as it is met; a slice's spare places count too). A statement '..UptoSaid' is the law's where the arguments, and the package variables that the reading takes, are together of bulk at most 1048576: NARROWER than '..Said'. Prove '..Said' where nothing that the law and all that it calls make is longer than what came in: it says more and counts as full. Else prove '..UptoSaid'. A law counts once. -/
mutual
def uptoBulk {H : Type} : DataW H → Nat
  | .lit (.string bytes) => bytes.length + 1
  | .lit _ => 1
  | .nil => 1
  | .ptr d => uptoBulk d + 1
  | .slice elems spare => uptoBulkAll elems + uptoBulkAll spare + 1
  | .agg parts => uptoBulkAll parts + 1
  | .iface _ d => uptoBulk d + 1
  | .map entries => uptoBulkEntries entries + 1
  | .held _ => 1
def uptoBulkAll {H : Type} : List (DataW H) → Nat
  | [] => 0
  | d :: r => uptoBulk d + uptoBulkAll r
def uptoBulkEntries {H : Type} : List (Lit × DataW H) → Nat
  | [] => 0
  | x :: r => uptoBulkEntry x + uptoBulkEntries r
def uptoBulkEntry {H : Type} : Lit × DataW H → Nat
  | (.string bytes, d) => bytes.length + uptoBulk d + 1
  | (_, d) => uptoBulk d + 1
 end
def uptoSmall : (H : Type) → List (DataW H) → Bool := fun _ ds => decide (uptoBulkAll ds ≤ 1048576)
def OpenSpec.upto (s : _root_.Go.ChangeSpec) : _root_.Go.OpenSpec := { _root_.Go.OpenSpec.ofChange s with cond := some uptoSmall }

/-- 'conclavelaw.OrderAllows', WHERE WHAT IT READS IS OF BULK AT MOST 1048576: true; the input reads as it did. -/
def orderAllowsUptoRow : OpenClaim := { program := "ytnpacofabdgcdaadoor", sum := "75e5754a4c231b8e7fa092410d5a25484abdd41d5adc75bcc63dc5ff7e311919", func := "conclave/conclavelaw.OrderAllows", spec := "orderAllows", named := ["conclave/order.need"], apart := false, laid := [("conclave/order.need", laid_conclave_order_need)], narrowed := true }
def OrderAllowsUptoSaid : Prop := orderAllowsUptoRow.holds Tryd.pinned (OpenSpec.upto orderAllowsSpec)

/-- 'conclavelaw.ShaSums', WHERE WHAT IT READS IS OF BULK AT MOST 1048576: true; the input reads as it did. -/
def shaSumsUptoRow : OpenClaim := { program := "ytnpacofabdgcdaadoor", sum := "75e5754a4c231b8e7fa092410d5a25484abdd41d5adc75bcc63dc5ff7e311919", func := "conclave/conclavelaw.ShaSums", spec := "shaSums", named := ["conclave/sha.numbers"], apart := false, laid := [("conclave/sha.numbers", laid_conclave_sha_numbers)], narrowed := true }
def ShaSumsUptoSaid : Prop := shaSumsUptoRow.holds Tryd.pinned (OpenSpec.upto shaSumsSpec)

/-- 'conclavelaw.ShaMacs', WHERE WHAT IT READS IS OF BULK AT MOST 1048576: true; the input reads as it did. -/
def shaMacsUptoRow : OpenClaim := { program := "ytnpacofabdgcdaadoor", sum := "75e5754a4c231b8e7fa092410d5a25484abdd41d5adc75bcc63dc5ff7e311919", func := "conclave/conclavelaw.ShaMacs", spec := "shaMacs", named := ["conclave/sha.numbers"], apart := false, laid := [("conclave/sha.numbers", laid_conclave_sha_numbers)], narrowed := true }
def ShaMacsUptoSaid : Prop := shaMacsUptoRow.holds Tryd.pinned (OpenSpec.upto shaMacsSpec)

/-- 'conclavelaw.ShaDraws', WHERE WHAT IT READS IS OF BULK AT MOST 1048576: true; the input reads as it did. -/
def shaDrawsUptoRow : OpenClaim := { program := "ytnpacofabdgcdaadoor", sum := "75e5754a4c231b8e7fa092410d5a25484abdd41d5adc75bcc63dc5ff7e311919", func := "conclave/conclavelaw.ShaDraws", spec := "shaDraws", named := ["conclave/sha.numbers"], apart := false, laid := [("conclave/sha.numbers", laid_conclave_sha_numbers)], narrowed := true }
def ShaDrawsUptoSaid : Prop := shaDrawsUptoRow.holds Tryd.pinned (OpenSpec.upto shaDrawsSpec)

/-- 'conclavelaw.MootIssuers', WHERE WHAT IT READS IS OF BULK AT MOST 1048576: true; the input reads as it did. -/
def mootIssuersUptoRow : OpenClaim := { program := "ytnpacofabdgcdaadoor", sum := "75e5754a4c231b8e7fa092410d5a25484abdd41d5adc75bcc63dc5ff7e311919", func := "conclave/conclavelaw.MootIssuers", spec := "mootIssuers", named := ["conclave/sha.numbers"], apart := false, laid := [("conclave/sha.numbers", laid_conclave_sha_numbers)], narrowed := true }
def MootIssuersUptoSaid : Prop := mootIssuersUptoRow.holds Tryd.pinned (OpenSpec.upto mootIssuersSpec)

/-- 'conclavelaw.MootKeys', WHERE WHAT IT READS IS OF BULK AT MOST 1048576: true; the input reads as it did. -/
def mootKeysUptoRow : OpenClaim := { program := "ytnpacofabdgcdaadoor", sum := "75e5754a4c231b8e7fa092410d5a25484abdd41d5adc75bcc63dc5ff7e311919", func := "conclave/conclavelaw.MootKeys", spec := "mootKeys", named := ["conclave/sha.numbers"], apart := false, laid := [("conclave/sha.numbers", laid_conclave_sha_numbers)], narrowed := true }
def MootKeysUptoSaid : Prop := mootKeysUptoRow.holds Tryd.pinned (OpenSpec.upto mootKeysSpec)

/-- 'conclavelaw.OrderGrants', WHERE WHAT IT READS IS OF BULK AT MOST 1048576: true; the input reads as it did. -/
def orderGrantsUptoRow : OpenClaim := { program := "ytnpacofabdgcdaadoor", sum := "75e5754a4c231b8e7fa092410d5a25484abdd41d5adc75bcc63dc5ff7e311919", func := "conclave/conclavelaw.OrderGrants", spec := "orderGrants", named := ["conclave/sha.numbers"], apart := false, laid := [("conclave/sha.numbers", laid_conclave_sha_numbers)], narrowed := true }
def OrderGrantsUptoSaid : Prop := orderGrantsUptoRow.holds Tryd.pinned (OpenSpec.upto orderGrantsSpec)

/-- 'conclavelaw.OrderProves', WHERE WHAT IT READS IS OF BULK AT MOST 1048576: true; the input reads as it did. -/
def orderProvesUptoRow : OpenClaim := { program := "ytnpacofabdgcdaadoor", sum := "75e5754a4c231b8e7fa092410d5a25484abdd41d5adc75bcc63dc5ff7e311919", func := "conclave/conclavelaw.OrderProves", spec := "orderProves", named := ["conclave/sha.numbers"], apart := false, laid := [("conclave/sha.numbers", laid_conclave_sha_numbers)], narrowed := true }
def OrderProvesUptoSaid : Prop := orderProvesUptoRow.holds Tryd.pinned (OpenSpec.upto orderProvesSpec)

/-- 'conclavelaw.VaultChains', WHERE WHAT IT READS IS OF BULK AT MOST 1048576: true; the input reads as it did. -/
def vaultChainsUptoRow : OpenClaim := { program := "ytnpacofabdgcdaadoor", sum := "75e5754a4c231b8e7fa092410d5a25484abdd41d5adc75bcc63dc5ff7e311919", func := "conclave/conclavelaw.VaultChains", spec := "vaultChains", named := ["conclave/sha.numbers"], apart := false, laid := [("conclave/sha.numbers", laid_conclave_sha_numbers)], narrowed := true }
def VaultChainsUptoSaid : Prop := vaultChainsUptoRow.holds Tryd.pinned (OpenSpec.upto vaultChainsSpec)

/-- 'conclavelaw.VaultAudits', WHERE WHAT IT READS IS OF BULK AT MOST 1048576: true; the input reads as it did. -/
def vaultAuditsUptoRow : OpenClaim := { program := "ytnpacofabdgcdaadoor", sum := "75e5754a4c231b8e7fa092410d5a25484abdd41d5adc75bcc63dc5ff7e311919", func := "conclave/conclavelaw.VaultAudits", spec := "vaultAudits", named := ["conclave/sha.numbers"], apart := false, laid := [("conclave/sha.numbers", laid_conclave_sha_numbers)], narrowed := true }
def VaultAuditsUptoSaid : Prop := vaultAuditsUptoRow.holds Tryd.pinned (OpenSpec.upto vaultAuditsSpec)

/-- 'conclavelaw.StablePromises', WHERE WHAT IT READS IS OF BULK AT MOST 1048576: true; the input reads as it did. -/
def stablePromisesUptoRow : OpenClaim := { program := "ytnpacofabdgcdaadoor", sum := "75e5754a4c231b8e7fa092410d5a25484abdd41d5adc75bcc63dc5ff7e311919", func := "conclave/conclavelaw.StablePromises", spec := "stablePromises", named := ["conclave/sha.numbers"], apart := false, laid := [("conclave/sha.numbers", laid_conclave_sha_numbers)], narrowed := true }
def StablePromisesUptoSaid : Prop := stablePromisesUptoRow.holds Tryd.pinned (OpenSpec.upto stablePromisesSpec)

/-- 'conclavelaw.LinesShows', WHERE WHAT IT READS IS OF BULK AT MOST 1048576: true; the input reads as it did. -/
def linesShowsUptoRow : OpenClaim := { program := "ytnpacofabdgcdaadoor", sum := "75e5754a4c231b8e7fa092410d5a25484abdd41d5adc75bcc63dc5ff7e311919", func := "conclave/conclavelaw.LinesShows", spec := "linesShows", inPlace := ["internal/abi.NoEscape"], unfollowed := true, recurses := true, named := ["conclave/lines.words", "internal/strconv.uint64pow10", "math/bits.deBruijn32tab", "math/bits.deBruijn64tab"], apart := false, laid := [("math/bits.deBruijn32tab", laid_math_bits_deBruijn32tab), ("math/bits.deBruijn64tab", laid_math_bits_deBruijn64tab), ("internal/strconv.uint64pow10", laid_internal_strconv_uint64pow10), ("conclave/lines.words", laid_conclave_lines_words)], narrowed := true }
def LinesShowsUptoSaid : Prop := linesShowsUptoRow.holds Tryd.pinned (OpenSpec.upto linesShowsSpec)

/-- 'conclavelaw.StableVotes', WHERE WHAT IT READS IS OF BULK AT MOST 1048576: true; the input reads as it did. -/
def stableVotesUptoRow : OpenClaim := { program := "ytnpacofabdgcdaadoor", sum := "75e5754a4c231b8e7fa092410d5a25484abdd41d5adc75bcc63dc5ff7e311919", func := "conclave/conclavelaw.StableVotes", spec := "stableVotes", inPlace := ["slices.overlaps[conclave/api.Vote]"], unfollowed := true, recurses := true, named := ["conclave/sha.numbers"], apart := false, laid := [("conclave/sha.numbers", laid_conclave_sha_numbers)], narrowed := true }
def StableVotesUptoSaid : Prop := stableVotesUptoRow.holds Tryd.pinned (OpenSpec.upto stableVotesSpec)

/-- 'conclavelaw.StableRecovers', WHERE WHAT IT READS IS OF BULK AT MOST 1048576: true; the input reads as it did. -/
def stableRecoversUptoRow : OpenClaim := { program := "ytnpacofabdgcdaadoor", sum := "75e5754a4c231b8e7fa092410d5a25484abdd41d5adc75bcc63dc5ff7e311919", func := "conclave/conclavelaw.StableRecovers", spec := "stableRecovers", inPlace := ["slices.overlaps[conclave/api.Vote]"], unfollowed := true, recurses := true, named := ["conclave/sha.numbers"], apart := false, laid := [("conclave/sha.numbers", laid_conclave_sha_numbers)], narrowed := true }
def StableRecoversUptoSaid : Prop := stableRecoversUptoRow.holds Tryd.pinned (OpenSpec.upto stableRecoversSpec)

/-- 'conclavelaw.StableRepairs', WHERE WHAT IT READS IS OF BULK AT MOST 1048576: true; the input reads as it did. -/
def stableRepairsUptoRow : OpenClaim := { program := "ytnpacofabdgcdaadoor", sum := "75e5754a4c231b8e7fa092410d5a25484abdd41d5adc75bcc63dc5ff7e311919", func := "conclave/conclavelaw.StableRepairs", spec := "stableRepairs", inPlace := ["slices.overlaps[conclave/api.Vote]"], unfollowed := true, recurses := true, named := ["conclave/sha.numbers"], apart := false, laid := [("conclave/sha.numbers", laid_conclave_sha_numbers)], narrowed := true }
def StableRepairsUptoSaid : Prop := stableRepairsUptoRow.holds Tryd.pinned (OpenSpec.upto stableRepairsSpec)

/-- 'conclavelaw.MootPacks', WHERE WHAT IT READS IS OF BULK AT MOST 1048576: true; the input reads as it did. -/
def mootPacksUptoRow : OpenClaim := { program := "ytnpacofabdgcdaadoor", sum := "75e5754a4c231b8e7fa092410d5a25484abdd41d5adc75bcc63dc5ff7e311919", func := "conclave/conclavelaw.MootPacks", spec := "mootPacks", named := ["conclave/sha.numbers"], apart := false, laid := [("conclave/sha.numbers", laid_conclave_sha_numbers)], narrowed := true }
def MootPacksUptoSaid : Prop := mootPacksUptoRow.holds Tryd.pinned (OpenSpec.upto mootPacksSpec)

/-- 'conclavelaw.MootOpens', WHERE WHAT IT READS IS OF BULK AT MOST 1048576: true; the input reads as it did. -/
def mootOpensUptoRow : OpenClaim := { program := "ytnpacofabdgcdaadoor", sum := "75e5754a4c231b8e7fa092410d5a25484abdd41d5adc75bcc63dc5ff7e311919", func := "conclave/conclavelaw.MootOpens", spec := "mootOpens", named := ["conclave/sha.numbers", "conclave/order.need"], apart := false, laid := [("conclave/sha.numbers", laid_conclave_sha_numbers), ("conclave/order.need", laid_conclave_order_need)], narrowed := true }
def MootOpensUptoSaid : Prop := mootOpensUptoRow.holds Tryd.pinned (OpenSpec.upto mootOpensSpec)

/-- 'conclavelaw.LinesReads', WHERE WHAT IT READS IS OF BULK AT MOST 1048576: true; the input reads as it did. -/
def linesReadsUptoRow : OpenClaim := { program := "ytnpacofabdgcdaadoor", sum := "75e5754a4c231b8e7fa092410d5a25484abdd41d5adc75bcc63dc5ff7e311919", func := "conclave/conclavelaw.LinesReads", spec := "linesReads", inPlace := ["internal/bytealg.IndexByteString", "internal/bytealg.CountString", "internal/bytealg.IndexString", "internal/abi.NoEscape"], unfollowed := true, recurses := true, named := ["conclave/lines.words", "unicode/utf8.first", "unicode/utf8.acceptRanges", "internal/bytealg.MaxLen", "strconv.ErrSyntax", "strconv.ErrRange", "internal/strconv.uint64pow10", "math/bits.deBruijn32tab", "math/bits.deBruijn64tab"], apart := false, laid := [("math/bits.deBruijn32tab", laid_math_bits_deBruijn32tab), ("math/bits.deBruijn64tab", laid_math_bits_deBruijn64tab), ("internal/strconv.uint64pow10", laid_internal_strconv_uint64pow10), ("unicode/utf8.acceptRanges", laid_unicode_utf8_acceptRanges), ("strconv.ErrRange", laid_strconv_ErrRange), ("strconv.ErrSyntax", laid_strconv_ErrSyntax), ("conclave/lines.words", laid_conclave_lines_words), ("unicode/utf8.first", laid_unicode_utf8_first)], narrowed := true }
def LinesReadsUptoSaid : Prop := linesReadsUptoRow.holds Tryd.pinned (OpenSpec.upto linesReadsSpec)

end Rows
end Go.Proofs.YtnpacofabdgcdaaDoor
