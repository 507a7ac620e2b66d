/- What is sent on a line, on both sides; no condition but those in the statements. -/
import Derived.Test.YtnpacofabdgcdaaDoorSel
import Derived.Test.YtnpacofabdgcdaaDoorLine
import Derived.Test.YtnpacofabdgcdaaDoorW13
namespace Go.Proofs.YtnpacofabdgcdaaDoor
open Go Go.V
set_option linter.unusedSimpArgs false
set_option linter.unusedVariables false
set_option maxRecDepth 100000
def head4 (n : Nat) : List Nat := [n / 16777216 % 256, n / 65536 % 256, n / 256 % 256, n % 256]
theorem head4_byte (n : Nat) : ∀ x ∈ head4 n, x < 256 := by
  intro x hx
  simp only [head4, List.mem_cons, List.not_mem_nil, or_false] at hx
  omega
theorem lineHead_ok (T : World) (h : Hp) (n : Nat) (hn : n ≤ 1073741824) :
    CallsH Tryd.prog T 79 #[.int .i64 n] h fun v' h' => OBs h.size 5 h' v' (head4 n) ∧ Bel h.size h h' := by
  refine CallsH.of_code' (args := [_]) Tryd.func79 rfl rfl rfl rfl ?_
  have e1 : (n : Int).tdiv 16777216 = ((n / 16777216 : Nat) : Int) := rfl
  have e2 : (n : Int).tdiv 65536 = ((n / 65536 : Nat) : Int) := rfl
  have e3 : (n : Int).tdiv 256 = ((n / 256 : Nat) : Int) := rfl
  have e4 : ((n / 65536 : Nat) : Int).tmod 256 = ((n / 65536 % 256 : Nat) : Int) := rfl
  have e5 : ((n / 256 : Nat) : Int).tmod 256 = ((n / 256 % 256 : Nat) : Int) := rfl
  have e6 : (n : Int).tmod 256 = ((n % 256 : Nat) : Int) := rfl
  have f1 : ((n / 16777216 : Nat) : Int) % 256 = ((n / 16777216 % 256 : Nat) : Int) := by omega
  have f2 : ((n / 65536 % 256 : Nat) : Int) % 256 = ((n / 65536 % 256 : Nat) : Int) := by omega
  have f3 : ((n / 256 % 256 : Nat) : Int) % 256 = ((n / 256 % 256 : Nat) : Int) := by omega
  have f4 : ((n % 256 : Nat) : Int) % 256 = ((n % 256 : Nat) : Int) := by omega
  simp (config := {maxSteps := 2000000, implicitDefEqProofs := false}) only [go_sem, ↓reduceIte, Nat.reduceEqDiff, Nat.reduceAdd, Nat.reduceMul, Nat.reduceLeDiff, Nat.reduceLT, Nat.reduceSub, IntWalk.iteOmega, IntWalk.toNatUp, reduceCtorEq, Int.reduceLE, Int.reduceLT, Int.reduceToNat, Int.reduceNeg, e1, e2, e3, e4, e5, e6, f1, f2, f3, f4]
  exact OBs.made (l := head4 n) (head4_byte n) (Nat.le_refl _)
def nonceS (l : List Nat) : List Nat := List.replicate 8 0 ++ l
theorem zero12 : (zrep 12 [Value.int .u8 0]) = (List.replicate 12 0).map bv := rfl
theorem lineNonce_ok (T : World) (h : Hp) (v : Value) (l : List Nat) (s : Bs h v l) (hl : l.length ≤ 1000) :
    CallsH Tryd.prog T 149 #[v] h fun v' h' => OBs h.size 5 h' v' (nonceS l) ∧ Bel h.size h h' := by
  refine CallsH.of_code' (args := [_]) Tryd.func149 rfl rfl rfl rfl ?_
  simp (config := {maxSteps := 2000000, implicitDefEqProofs := false}) only [go_sem, ↓reduceIte, Nat.reduceEqDiff, Nat.reduceAdd, Nat.reduceMul, Nat.reduceLeDiff, Nat.reduceLT, Nat.reduceSub, IntWalk.iteOmega, IntWalk.toNatUp, reduceCtorEq, Int.reduceLE, Int.reduceLT, Int.reduceToNat, Int.reduceNeg, zero12]
  have o1 : OBs h.size 5 (h.push (.cells ((List.replicate 12 0).map bv).toArray 5)) (.slice (some ⟨h.size, 0, none⟩) 8 12) (List.replicate 8 0) := by
    refine ⟨.inr ⟨h.size, 12, (List.replicate 4 0).map bv, Nat.le_refl _, rfl, ?_, by simp, by simp, by simp⟩, fun x hx => by rw [List.eq_of_mem_replicate hx]; decide⟩
    rw [get_push_last, ← List.map_append]; rfl
  refine append_bytes (E := 5) (B := h.size) tsl29 Tryd.underlying29 tn5 tz5 tb5 o1 (by simp) (s.bel (Bel.push (Nat.le_refl _) _)) (by simp; omega) ?_
  intro v' h' ho' hb' _
  simp (config := {maxSteps := 2000000, implicitDefEqProofs := false}) only [go_sem, ↓reduceIte, Nat.reduceEqDiff, Nat.reduceAdd, Nat.reduceMul, Nat.reduceLeDiff, Nat.reduceLT, Nat.reduceSub, IntWalk.iteOmega, IntWalk.toNatUp, reduceCtorEq, Int.reduceLE, Int.reduceLT, Int.reduceToNat, Int.reduceNeg]
  exact ⟨ho', (Bel.push (Nat.le_refl _) _).trans hb'⟩
def sendErr (n : Nat) (sent top : Int) (s : List Bool) (m : Nat) : Int := if chanErr n sent top s ≠ 0 then 5 else if 2000 < m then 1 else if sent = 1073741824 then 8 else 0
def noSeen : List Bool := [false, false, false, false, false, false, false, false]
def recS (kl : List Nat) (n : Nat) (plain : List Nat) : List Nat := head4 n ++ sealS kl (nonceS (head4 n)) (head4 n) plain
def ChanW (B : Nat) (h' : Hp) (cw : Value) (e : Int) (kl : List Nat) (sent top : Int) (s : List Bool) : Prop := ChanRes B h' cw (if e = 0 then kl else []) (if e = 0 then sent else 0) (if e = 0 then top else 0) (if e = 0 then s else noSeen)
def SendRes (B : Nat) (h' : Hp) (v' : Value) (kl : List Nat) (sent top : Int) (s : List Bool) (plain : List Nat) : Prop := ∃ cw w, v' = .tuple [cw, w, .int .i64 (sendErr kl.length sent top s plain.length)].toArray ∧
  ChanW B h' cw (sendErr kl.length sent top s plain.length) kl (sent + 1) top s ∧ OBs B 5 h' w (if sendErr kl.length sent top s plain.length = 0 then recS kl sent.toNat plain else [])
theorem chanErr_five (n : Nat) (sent top : Int) (s : List Bool) : chanErr n sent top s = 0 ∨ chanErr n sent top s = 5 := by
  unfold chanErr
  repeat' split
  all_goals simp
theorem chanErr_zero {n : Nat} {sent top : Int} {s : List Bool} (e : chanErr n sent top s = 0) : n = 32 ∧ 0 ≤ sent ∧ sent ≤ 1073741824 ∧ 0 ≤ top ∧ top ≤ 1073741824 := by
  unfold chanErr at e
  split at e
  · cases e
  · omega
theorem wrZ {G : Hp} {b : Nat} (hx : G[b]? = some (.cells chanZ.toArray 143)) {w : List Value} (h11 : w.length = 11) (h1 : w.all oneC = true) : wr G ⟨b, 0, none⟩ w = some (G.setIfInBounds b (.cells w.toArray 143)) := by
  rw [wr_get hx 0 w, lput_full (by rw [h11]; rfl), if_pos ⟨by rw [h11]; exact Nat.le_refl _, h1⟩]
end Go.Proofs.YtnpacofabdgcdaaDoor
namespace Go.Proofs.YtnpacofabdgcdaaDoor
open Go Go.V
set_option linter.unusedSimpArgs false
set_option linter.unusedVariables false
set_option maxRecDepth 100000
theorem chan_again {sent top : Int} {s : List Bool} (hs : s.length = 8) (e : chanErr 32 sent top s = 0) : topOf (metN top s 8) = top ∧ seenOf (metN top s 8) top = s := by
  obtain ⟨_, h1, h2, h3, h4⟩ := chanErr_zero e
  rw [chan_law hs h1 h2 h3 h4] at e
  split at e
  · cases e
  · rename_i hn
    have t : topOf (metN top s 8) = top := Classical.byContradiction fun hne => hn (.inr (.inl hne))
    exact ⟨t, Classical.byContradiction fun hne => hn (.inr (.inr (by rw [t]; exact hne)))⟩
theorem met_range {top : Int} {s : List Bool} (h3 : 0 ≤ top) (h4 : top ≤ 1073741824) : ∀ x ∈ metN top s 8, -1099511627776 ≤ x ∧ x ≤ 1099511627776 ∧ x < topOf (metN top s 8) := by
  intro x hx
  have hb := metN_below top s x hx
  obtain ⟨i, hi, _, rfl⟩ := metN_mem.1 hx
  exact ⟨by omega, by omega, hb⟩
theorem zero8 : (#[Value.int .u8 0, .int .u8 0, .int .u8 0, .int .u8 0, .int .u8 0, .int .u8 0, .int .u8 0, .int .u8 0] : Array Value) = ((List.replicate 8 0).map bv).toArray := rfl
end Go.Proofs.YtnpacofabdgcdaaDoor
