/- The digest under a key, and what is drawn of it: the plain law; no condition but those in the statements. -/
import Derived.Test.YtnpacofabdgcdaaDoorShap
namespace Go.Proofs.YtnpacofabdgcdaaDoor
open Go Go.V
set_option linter.unusedSimpArgs false
set_option linter.unusedVariables false
set_option maxRecDepth 100000
/-- The key's bytes: a digest where it is long. -/
def keyS (key : List Nat) : List Nat := if 64 < key.length then shaS key else key
theorem keyS_length (key : List Nat) : (keyS key).length ≤ 64 := by
  unfold keyS; split
  · rw [shaS_length]; omega
  · omega
theorem keyS_byte {key : List Nat} (h : Byte key) : Byte (keyS key) := by
  unfold keyS; split
  · exact shaS_byte _
  · exact h
/-- 64 bytes of a key, noughts behind it. -/
def padZ (key : List Nat) : List Nat := keyS key ++ List.replicate (64 - (keyS key).length) 0
theorem padZ_length (key : List Nat) : (padZ key).length = 64 := by
  have := keyS_length key
  simp [padZ]; omega
theorem padZ_byte {key : List Nat} (h : Byte key) : Byte (padZ key) := by
  intro x hx
  simp only [padZ, List.mem_append, List.mem_replicate] at hx
  rcases hx with hx | ⟨_, rfl⟩
  · exact keyS_byte h x hx
  · omega
theorem padZ_getD (key : List Nat) (i : Nat) : (padZ key).getD i 0 = (keyS key).getD i 0 := by
  unfold padZ
  rw [List.getD_eq_getElem?_getD, List.getD_eq_getElem?_getD]
  by_cases h : i < (keyS key).length
  · rw [List.getElem?_append_left h]
  · rw [List.getElem?_append_right (by omega), List.getElem?_eq_none (show (keyS key).length ≤ i by omega), List.getElem?_replicate]
    split <;> rfl
/-- The same with a byte mixed in. -/
def padK (key : List Nat) (w : Nat) : List Nat := (padZ key).map (· ^^^ w)
theorem padK_length (key : List Nat) (w : Nat) : (padK key w).length = 64 := by simp [padK, padZ_length]
theorem padK_byte {key : List Nat} (h : Byte key) {w : Nat} (hw : w < 256) : Byte (padK key w) := by
  intro x hx
  obtain ⟨y, hy, rfl⟩ := List.mem_map.1 hx
  exact xorB (padZ_byte h y hy) hw
theorem padK_getD (key : List Nat) (w : Nat) {i : Nat} (hi : i < 64) : (padK key w).getD i 0 = (padZ key).getD i 0 ^^^ w := by
  rw [List.getD_eq_getElem?_getD, List.getD_eq_getElem?_getD, padK, List.getElem?_map, List.getElem?_eq_getElem (by rw [padZ_length]; exact hi)]; rfl
/-- The digest under a key. -/
def macS (key b : List Nat) : List Nat := shaS (padK key 92 ++ shaS (padK key 54 ++ b))
theorem macS_length (key b : List Nat) : (macS key b).length = 32 := shaS_length _
theorem macS_byte (key b : List Nat) : Byte (macS key b) := shaS_byte _
/-- The i-th part of what is drawn. -/
def drawT (key info : List Nat) : Nat → List Nat
  | 0 => []
  | i + 1 => macS key (drawT key info i ++ info ++ [(i + 1) % 256])
def drawA (key info : List Nat) : Nat → List Nat
  | 0 => []
  | i + 1 => drawA key info i ++ drawT key info (i + 1)
theorem drawT_length (key info : List Nat) (i : Nat) : (drawT key info (i + 1)).length = 32 := macS_length _ _
theorem drawT_le (key info : List Nat) : ∀ i, (drawT key info i).length ≤ 32
  | 0 => Nat.zero_le _
  | i + 1 => Nat.le_of_eq (drawT_length key info i)
theorem drawT_byte (key info : List Nat) : ∀ i, Byte (drawT key info i)
  | 0 => fun x hx => by cases hx
  | i + 1 => macS_byte _ _
theorem drawA_length (key info : List Nat) : ∀ i, (drawA key info i).length = 32 * i
  | 0 => rfl
  | i + 1 => by rw [drawA, List.length_append, drawA_length key info i, drawT_length]; omega
theorem drawA_take (key info : List Nat) (n : Nat) : ∀ (i j : Nat), n ≤ 32 * i → i ≤ j → (drawA key info j).take n = (drawA key info i).take n
  | i, 0, h, hj => by obtain rfl : i = 0 := by omega
                      rfl
  | i, j + 1, h, hj => by
    by_cases e : i = j + 1
    · rw [e]
    · rw [drawA, List.take_append_of_le_length (by rw [drawA_length]; omega)]
      exact drawA_take key info n i j h (by omega)
/-- So many bytes of a secret. -/
def drawS (secret salt info : List Nat) (n : Nat) : List Nat := (drawA (macS salt secret) info 16).take n
theorem drawS_length (secret salt info : List Nat) {n : Nat} (hn : n ≤ 512) : (drawS secret salt info n).length = n := by
  rw [drawS, List.length_take, drawA_length]; omega
end Go.Proofs.YtnpacofabdgcdaaDoor
