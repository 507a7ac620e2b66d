/- Tokens that are granted: what the program and the document compute; no condition but those in the statements. -/
import Derived.Test.YtnpacofabdgcdaaDoorShn
import Derived.Test.YtnpacofabdgcdaaDoorTok
namespace Go.Proofs.YtnpacofabdgcdaaDoor
open Go Go.V
set_option linter.unusedSimpArgs false
set_option linter.unusedVariables false
set_option maxRecDepth 100000
theorem proof_ok (T : World) (h : Hp) (v u : Value) (key b : List Nat) (s : Bs h v key) (sb : Bs h u b) (hk : key.length ≤ 256) (hb : b.length ≤ 2000) (tk : Tk h) :
    CallsH Tryd.prog T 78 #[v, u] h fun v' h' => (Bs h' v' ((macS key b).take 16) ∧ Cap v') ∧ Bel h.size h h' := by
  refine CallsH.of_code' (args := [_, _]) Tryd.func78 rfl rfl rfl rfl ?_
  simp (config := {maxSteps := 2000000, implicitDefEqProofs := false}) only [go_sem, ↓reduceIte, Nat.reduceEqDiff, Nat.reduceAdd, Nat.reduceMul, Nat.reduceLeDiff, Nat.reduceLT, Nat.reduceSub, IntWalk.iteOmega, IntWalk.toNatUp, reduceCtorEq, Int.reduceLE, Int.reduceLT, Int.reduceToNat, Int.reduceNeg]
  refine (shaMac_ok T _ _ _ key b s sb tk).use ?_
  rintro _ h1 ⟨⟨w, rfl, o1⟩, b1⟩
  have e0 : macErr key.length b.length = 0 := by unfold macErr; rw [if_neg (by omega)]
  rw [e0, if_pos rfl] at o1
  rw [e0]
  have ml := macS_length key b
  generalize macS key b = M at *
  obtain ⟨p, c, rfl, hc⟩ := o1.open
  have sM := o1.bs
  obtain ⟨p', c', hv, hh⟩ := sM.opend
  simp only [Value.slice.injEq] at hv
  obtain ⟨rfl, _, rfl⟩ := hv
  obtain ⟨bb, ob, rfl, _⟩ := hh (by intro e; rw [e] at ml; cases ml)
  have fin := Bs.fore sM (m := 16) (by omega) c
  rw [ml] at hc ⊢
  have h16 : (16 : Int) ≤ (c : Int) := by omega
  have hc0 : ¬ c = 0 := by omega
  simp (config := {maxSteps := 2000000, implicitDefEqProofs := false}) only [go_sem, ↓reduceIte, Nat.reduceEqDiff, Nat.reduceAdd, Nat.reduceMul, Nat.reduceLeDiff, Nat.reduceLT, Nat.reduceSub, IntWalk.iteOmega, IntWalk.toNatUp, reduceCtorEq, Int.reduceLE, Int.reduceLT, Int.reduceToNat, Int.reduceNeg, h16, hc0, Nat.sub_zero, Nat.zero_mul, b1]
  exact ⟨fin, show 16 ≤ c by omega⟩
def grtB (c r u : Nat) : List Nat := [c, r] ++ high4 u
def grtS (key : List Nat) (c r u : Nat) : List Nat := grtB c r u ++ (macS key (grtB c r u)).take 16
def grtErr (kl : Nat) (c r u : Int) : Int := if kl ≠ 32 then 1 else tokErr c r u
def GrtRes (B : Nat) (h' : Hp) (v' : Value) (key : List Nat) (c r u : Int) : Prop := ∃ w, v' = .tuple [w, .int .i64 (grtErr key.length c r u)].toArray ∧ OBs B 5 h' w (if grtErr key.length c r u = 0 then grtS key c.toNat r.toNat u.toNat else [])
end Go.Proofs.YtnpacofabdgcdaaDoor
