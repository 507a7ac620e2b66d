/- Records of commands, opened: what moot.Open and the document's way compute; no condition but those in the statements. -/
import Derived.Test.YtnpacofabdgcdaaDoorTakf
import Derived.Test.YtnpacofabdgcdaaDoorPrv
import Derived.Test.YtnpacofabdgcdaaDoorKey
import Derived.Test.YtnpacofabdgcdaaDoorAlw
import Derived.Test.YtnpacofabdgcdaaDoorW21
namespace Go.Proofs.YtnpacofabdgcdaaDoor
open Go Go.V
set_option linter.unusedSimpArgs false
set_option linter.unusedVariables false
set_option maxRecDepth 100000
def opnPl (rc : List Nat) : List Nat := takeS (cliS (rc.getD 0 0)) (rc.drop 1)
/-- The cells of a command, off its bytes. -/
def cmdI (l : List Nat) (i : Nat) : Int := ((be4 l (4 * i) : Nat) : Int)
def opnA (PL : List Nat) (now : Int) : Int := alErr ((PL.take 22).getD 0 0 : Nat) ((PL.take 22).getD 1 0 : Nat) (be4 (PL.take 22) 2 : Nat) (cmdI (PL.drop 22) 0) (cmdI (PL.drop 22) 1) (cmdI (PL.drop 22) 2) (cmdI (PL.drop 22) 3) (cmdI (PL.drop 22) 4) now
def opnE4 (PL : List Nat) (X : Nat) (now : Int) : Int := if cmdI (PL.drop 22) 0 ≠ 0 ∧ cmdI (PL.drop 22) 1 ≠ (X : Nat) then 11 else opnA PL now
def opnE3 (PL : List Nat) (X : Nat) (now : Int) : Int := if decErr (PL.drop 22) ≠ 0 then decErr (PL.drop 22) else opnE4 PL X now
def opnE2 (PL : List Nat) (X : Nat) (now : Int) : Int := if prvErr issS (PL.take 22) ≠ 0 then prvErr issS (PL.take 22) else opnE3 PL X now
def opnE1 (PL : List Nat) (X : Nat) (now : Int) : Int := if PL.length ≠ 42 then 3 else opnE2 PL X now
def opnE0 (te : Int) (PL : List Nat) (X : Nat) (now : Int) : Int := if te ≠ 0 then te else opnE1 PL X now
def opnErr (rc : List Nat) (now : Int) : Int :=
  if rc.length = 0 then 13 else if keyErr (rc.getD 0 0 : Nat) ≠ 0 then keyErr (rc.getD 0 0 : Nat) else
  opnE0 (takeErr (cliS (rc.getD 0 0)) 0 0 noSeen (rc.drop 1)) (opnPl rc) (rc.getD 0 0) now
def opnC (rc : List Nat) (now : Int) : List Value := if opnErr rc now = 0 then cmdC (cmdI ((opnPl rc).drop 22) 0) (cmdI ((opnPl rc).drop 22) 1) (cmdI ((opnPl rc).drop 22) 2) (cmdI ((opnPl rc).drop 22) 3) (cmdI ((opnPl rc).drop 22) 4) else cmdZ
theorem prvT_cells {key l : List Nat} (h : prvErr key l = 0) : prvT key l = [.int .i64 (l.getD 0 0 : Nat), .int .i64 (l.getD 1 0 : Nat), .int .i64 (be4 l 2 : Nat)] := by unfold prvT; rw [if_pos h]; rfl
theorem prvT_none {key l : List Nat} (h : ¬ prvErr key l = 0) : prvT key l = [.int .i64 0, .int .i64 0, .int .i64 0] := by unfold prvT; rw [if_neg h]; rfl
theorem decC_some {l : List Nat} (h : decErr l = 0) : decC l = [.int .i64 (cmdI l 0), .int .i64 (cmdI l 1), .int .i64 (cmdI l 2), .int .i64 (cmdI l 3), .int .i64 (cmdI l 4)] := by unfold decC; rw [if_pos h]; rfl
theorem decC_zero {l : List Nat} (h : ¬ decErr l = 0) : decC l = [.int .i64 0, .int .i64 0, .int .i64 0, .int .i64 0, .int .i64 0] := by unfold decC; rw [if_neg h]; rfl
theorem opnC_zero {rc : List Nat} {now : Int} (h : ¬ opnErr rc now = 0) : opnC rc now = [.int .i64 0, .int .i64 0, .int .i64 0, .int .i64 0, .int .i64 0] := by unfold opnC; rw [if_neg h]; rfl
theorem opnC_some {rc : List Nat} {now : Int} (h : opnErr rc now = 0) : opnC rc now = [.int .i64 (cmdI ((opnPl rc).drop 22) 0), .int .i64 (cmdI ((opnPl rc).drop 22) 1), .int .i64 (cmdI ((opnPl rc).drop 22) 2), .int .i64 (cmdI ((opnPl rc).drop 22) 3), .int .i64 (cmdI ((opnPl rc).drop 22) 4)] := by unfold opnC; rw [if_pos h]; rfl
set_option maxHeartbeats 2000000 in
theorem open2_ok (T : World) (h : Hp) (v : Value) (rc : List Nat) (now : Int) (s : Bs h v rc) (hcap : Cap v) (hrl : rc.length ≤ 140737488355328) (tk : Tk h) (tn : Tab 0 niv needN h) :
    CallsH Tryd.prog T 63 #[v, .int .i64 now] h fun v' h' => v' = .tuple [.agg (opnC rc now).toArray, .int .i64 (opnErr rc now)].toArray ∧ Bel h.size h h' := by
  obtain ⟨p, c, rfl, _⟩ := s.open
  have hc0 : rc.length ≤ c := hcap
  refine CallsH.of_code2 (args := [_, _]) Tryd.func63 rfl rfl rfl rfl ?_
  simp (config := {maxSteps := 2000000, implicitDefEqProofs := false}) only [go_sem, ↓reduceIte, Nat.reduceEqDiff, Nat.reduceAdd, Nat.reduceMul, Nat.reduceLeDiff, Nat.reduceLT, Nat.reduceSub, IntWalk.iteOmega, IntWalk.toNatUp, reduceCtorEq, Int.reduceLE, Int.reduceLT, Int.reduceToNat, Int.reduceNeg]
  obtain ⟨h0, hh0⟩ : ∃ h0 : Hp, h0 = h.push (.cells [.int .i64 0, .int .i64 0, .int .i64 0, .int .i64 0, .int .i64 0].toArray 25) := ⟨_, rfl⟩
  have b0 : Bel h.size h h0 := by rw [hh0]; exact (Bel.refl _ _).add _
  have s0 : h0.size = h.size + 1 := by rw [hh0]; simp
  have z0 : h0[h.size]? = some (.cells [.int .i64 0, .int .i64 0, .int .i64 0, .int .i64 0, .int .i64 0].toArray 25) := by rw [hh0]; exact get_push_last
  have e0 : h.push (.cells #[Value.int .i64 0, .int .i64 0, .int .i64 0, .int .i64 0, .int .i64 0] 25) = h0 := hh0.symm
  have e0' : h.push (.cells [Value.int .i64 0, .int .i64 0, .int .i64 0, .int .i64 0, .int .i64 0].toArray 25) = h0 := hh0.symm
  first | rw [e0] | rw [e0']
  clear e0 e0' hh0
  have fin : ∀ (G : Hp) (w : List Value), w.length = 5 → w.all oneC = true → G[h.size]? = some (.cells [.int .i64 0, .int .i64 0, .int .i64 0, .int .i64 0, .int .i64 0].toArray 25) → wr G ⟨h.size, 0, none⟩ w = some (G.setIfInBounds h.size (.cells w.toArray 25)) := by
    intro G w h3 h1 hx
    rw [wr_get (b := h.size) hx 0 w, lput_full (by rw [h3]; rfl), if_pos ⟨by rw [h3]; simp, h1⟩]
  by_cases l0 : rc.length = 0
  case pos =>
    have l0' : (rc.length : Int) = 0 := by omega
    have ee := show opnErr rc now = 13 by unfold opnErr; rw [if_pos l0]
    rw [opnC_zero (by rw [ee]; exact (by decide)), ee]
    have yz := fin h0 [.int .i64 0, .int .i64 0, .int .i64 0, .int .i64 0, .int .i64 0] rfl rfl z0
    have hz := lt_of_get z0
    simp (config := {maxSteps := 2000000, implicitDefEqProofs := false}) only [go_sem, ↓reduceIte, Nat.reduceEqDiff, Nat.reduceAdd, Nat.reduceMul, Nat.reduceLeDiff, Nat.reduceLT, Nat.reduceSub, IntWalk.iteOmega, IntWalk.toNatUp, reduceCtorEq, Int.reduceLE, Int.reduceLT, Int.reduceToNat, Int.reduceNeg, l0', yz, hz]
    try exact (b0).addSet (Nat.le_refl _) _
  have l0' : ¬ (rc.length : Int) = 0 := by omega
  have n0 : (0 : Int) < (rc.length : Int) := by omega
  have n1 : (1 : Int) ≤ (rc.length : Int) := by omega
  obtain ⟨q', d', hv, hh⟩ := (s.bel b0).opend
  simp only [Value.slice.injEq, true_and] at hv
  obtain ⟨rfl, rfl⟩ := hv
  obtain ⟨bb, oo, rfl, hbb, hcs⟩ := hh (by intro e; subst e; simp at l0)
  have x0 := hcs 0 (by omega)
  rw [Nat.add_zero] at x0
  have hx0 := getD_byte s.byte 0
  obtain ⟨X, hX⟩ : ∃ X, X = rc.getD 0 0 := ⟨_, rfl⟩
  rw [← hX] at x0 hx0
  obtain ⟨PL, hPL⟩ : ∃ PL, PL = takeS (cliS X) (rc.drop 1) := ⟨_, rfl⟩
  obtain ⟨te, hte⟩ : ∃ te, te = takeErr (cliS X) 0 0 noSeen (rc.drop 1) := ⟨_, rfl⟩
  have ePL : opnPl rc = PL := by rw [hPL, hX]; rfl
  have E00 : opnErr rc now = if keyErr (X : Nat) ≠ 0 then keyErr (X : Nat) else opnE0 te PL X now := by
    unfold opnErr
    rw [if_neg l0, ← hX, ← hte, ePL]
  simp (config := {maxSteps := 2000000, implicitDefEqProofs := false}) only [go_sem, ↓reduceIte, Nat.reduceEqDiff, Nat.reduceAdd, Nat.reduceMul, Nat.reduceLeDiff, Nat.reduceLT, Nat.reduceSub, IntWalk.iteOmega, IntWalk.toNatUp, reduceCtorEq, Int.reduceLE, Int.reduceLT, Int.reduceToNat, Int.reduceNeg, l0', n0, x0]
  refine (mootKey_ok T h0 _ (tk.bels b0)).use ?_
  rintro _ h1 ⟨⟨w1, rfl, k1, o1, f1⟩, b1⟩
  have B1 := b0.trans (b1.mono b0.size)
  have s1 := b1.size
  have z1 := b1.get (by omega) z0
  by_cases ke : keyErr (X : Nat) = 0
  case neg =>
    generalize keyErr (X : Nat) = KE at *
    have ee := show opnErr rc now = KE by rw [E00, if_pos ke]
    rw [opnC_zero (by rw [ee]; exact ke), ee]
    have yz := fin h1 [.int .i64 0, .int .i64 0, .int .i64 0, .int .i64 0, .int .i64 0] rfl rfl z1
    have hz := lt_of_get z1
    simp (config := {maxSteps := 2000000, implicitDefEqProofs := false}) only [go_sem, ↓reduceIte, Nat.reduceEqDiff, Nat.reduceAdd, Nat.reduceMul, Nat.reduceLeDiff, Nat.reduceLT, Nat.reduceSub, IntWalk.iteOmega, IntWalk.toNatUp, reduceCtorEq, Int.reduceLE, Int.reduceLT, Int.reduceToNat, Int.reduceNeg, ke, yz, hz]
    try exact (B1).addSet (Nat.le_refl _) _
  have E0 : opnErr rc now = opnE0 te PL X now := by rw [E00, if_neg (fun hn => hn ke)]
  rw [ke, if_pos rfl, Int.toNat_natCast] at o1
  rw [ke]
  have x7 : X ≤ 7 := by unfold keyErr at ke; split at ke <;> omega
  obtain ⟨p1, c1, rfl, hc1⟩ := o1.open
  have lk := cliS_length X
  obtain ⟨P1, hP1⟩ : ∃ P1, P1 = if c = 1 then some (⟨bb, oo, none⟩ : Addr) else some ⟨bb, oo + 1, none⟩ := ⟨_, rfl⟩
  have sD : Bs h1 (.slice P1 (rc.length - 1) (c - 1)) (rc.drop 1) := by
    have sb1 := (s.bel b0).bel b1
    by_cases hc : c = 1
    · have hl1 : rc.length = 1 := by omega
      have hd : rc.drop 1 = [] := List.drop_eq_nil_of_le (by omega)
      rw [hd, hl1, hc]
      exact ⟨(Own.nil' 0 0 1 h1 P1).sl, fun x hx => by cases hx⟩
    · rw [hP1, if_neg hc]
      exact bs_cutF sb1 (k := 1) (by omega) rfl _
  have capD : Cap (.slice P1 (rc.length - 1) (c - 1)) := by show rc.length - 1 ≤ c - 1; omega
  have htk : CallsH Tryd.prog T 112 #[.agg #[.slice p1 (cliS X).length c1, .int .i64 0, .int .i64 0, .bool false, .bool false, .bool false, .bool false, .bool false, .bool false, .bool false, .bool false], .slice P1 (rc.length - 1) (c - 1)] h1 fun v' h' => TakeRes h1.size h' v' (cliS X) 0 0 noSeen (rc.drop 1) ∧ Bel h1.size h1 h' := lineTake_ok T h1 _ _ (cliS X) (rc.drop 1) 0 0 noSeen rfl o1 sD k1 capD
  simp (config := {maxSteps := 2000000, implicitDefEqProofs := false}) only [go_sem, ↓reduceIte, Nat.reduceEqDiff, Nat.reduceAdd, Nat.reduceMul, Nat.reduceLeDiff, Nat.reduceLT, Nat.reduceSub, IntWalk.iteOmega, IntWalk.toNatUp, reduceCtorEq, Int.reduceLE, Int.reduceLT, Int.reduceToNat, Int.reduceNeg, n1]
  try rw [← hP1]
  refine htk.use ?_
  rintro _ h2 ⟨⟨cw, w2, rfl, ⟨w3, rfl, o3⟩, o2⟩, b2⟩
  rw [← hte] at o2 o3 ⊢
  rw [← hPL] at o2
  have B2 := B1.trans (b2.mono B1.size)
  have s2 := b2.size
  have z2 := b2.get (by omega) z1
  obtain ⟨CC, hCC⟩ : ∃ CC, CC = chanC w3 (if te = 0 then 0 else 0) (if te = 0 then max 0 (((rec4 (rc.drop 1) : Nat) : Int) + 1) else 0) (if te = 0 then seenT 0 noSeen (rec4 (rc.drop 1)) else noSeen) := ⟨_, rfl⟩
  obtain ⟨p3, c3, rfl, _⟩ := o3.open
  have lsn : (if te = 0 then seenT 0 noSeen (rec4 (rc.drop 1)) else noSeen).length = 8 := by
    split
    · exact seenOf_length _ _
    · rfl
  have hCl : CC.length = 11 := by rw [hCC]; exact chanC_length _ _ _ _ lsn
  have hCo : CC.all oneC = true := by rw [hCC]; exact chanC_one _ _ _
  have hCp : lput [Value.slice none 0 0, .int .i64 0, .int .i64 0, .bool false, .bool false, .bool false, .bool false, .bool false, .bool false, .bool false, .bool false] 0 CC = CC := lput_full (by rw [hCl]; rfl)
  have hCle : CC.length ≤ 11 := by omega
  rw [← hCC]
  obtain ⟨h3, hh3⟩ : ∃ h3 : Hp, h3 = h2.push (.cells CC.toArray 143) := ⟨_, rfl⟩
  have b3 : Bel h2.size h2 h3 := by rw [hh3]; exact Bel.push (Nat.le_refl _) _
  have s3 : h3.size = h2.size + 1 := by rw [hh3]; simp
  have z3 := b3.get (by omega) z2
  have B3 := B2.trans (b3.mono B2.size)
  have o23 := o2.bel b3 (Nat.le_refl _)
  obtain ⟨p2, c2, rfl, hc2⟩ := o2.open
  have yz2 := fin h2 [.int .i64 0, .int .i64 0, .int .i64 0, .int .i64 0, .int .i64 0] rfl rfl z2
  have hne2 : ¬ h.size = h2.size := by omega
  have hlt2 : h.size < h2.size := by omega
  by_cases te0 : te = 0
  case neg =>
    have ee : opnErr rc now = te := by rw [E0]; unfold opnE0; rw [if_pos te0]
    rw [opnC_zero (by rw [ee]; exact te0), ee]
    simp (config := {maxSteps := 2000000, implicitDefEqProofs := false}) only [go_sem, ↓reduceIte, Nat.reduceEqDiff, Nat.reduceAdd, Nat.reduceMul, Nat.reduceLeDiff, Nat.reduceLT, Nat.reduceSub, IntWalk.iteOmega, IntWalk.toNatUp, reduceCtorEq, Int.reduceLE, Int.reduceLT, Int.reduceToNat, Int.reduceNeg, hCl, hCo, hCp, hCle, te0, yz2, hne2, hlt2]
    try exact (B2.addSet (Nat.le_refl _) _).addP (by simp; omega) _
  have E1 : opnErr rc now = opnE1 PL X now := by rw [E0]; unfold opnE0; rw [if_neg (fun hn => hn te0)]
  rw [if_pos te0] at o23 hc2
  try simp only [if_pos te0]
  by_cases l42 : PL.length = 42
  case neg =>
    have l42' : ¬ (PL.length : Int) = 42 := by omega
    have ee : opnErr rc now = 3 := by rw [E1]; unfold opnE1; rw [if_pos l42]
    rw [opnC_zero (by rw [ee]; decide), ee]
    simp (config := {maxSteps := 2000000, implicitDefEqProofs := false}) only [go_sem, ↓reduceIte, Nat.reduceEqDiff, Nat.reduceAdd, Nat.reduceMul, Nat.reduceLeDiff, Nat.reduceLT, Nat.reduceSub, IntWalk.iteOmega, IntWalk.toNatUp, reduceCtorEq, Int.reduceLE, Int.reduceLT, Int.reduceToNat, Int.reduceNeg, hCl, hCo, hCp, hCle, te0, l42', yz2, hne2, hlt2]
    try exact (B2.addSet (Nat.le_refl _) _).addP (by simp; omega) _
  have l42' : (PL.length : Int) = 42 := by omega
  have E2 : opnErr rc now = opnE2 PL X now := by rw [E1]; unfold opnE1; rw [if_neg (fun hn => hn l42)]
  simp (config := {maxSteps := 2000000, implicitDefEqProofs := false}) only [go_sem, ↓reduceIte, Nat.reduceEqDiff, Nat.reduceAdd, Nat.reduceMul, Nat.reduceLeDiff, Nat.reduceLT, Nat.reduceSub, IntWalk.iteOmega, IntWalk.toNatUp, reduceCtorEq, Int.reduceLE, Int.reduceLT, Int.reduceToNat, Int.reduceNeg, hCl, hCo, hCp, hCle, te0, l42']
  rw [← hh3]
  clear hh3 hCC o2 o3 hte
  have n22 : (22 : Int) ≤ (c2 : Int) := by omega
  have sPL := o23.bs
  have sT : Bs h3 (.slice p2 22 c2) (PL.take 22) := sPL.fore (by omega) c2
  have cT : Cap (.slice p2 22 c2) := by show 22 ≤ c2; omega
  obtain ⟨PE, hPE⟩ : ∃ PE, PE = prvErr issS (PL.take 22) := ⟨_, rfl⟩
  obtain ⟨tc, tr, tu, hT, hTok⟩ : ∃ tc tr tu : Int, prvT issS (PL.take 22) = [.int .i64 tc, .int .i64 tr, .int .i64 tu] ∧ (PE = 0 → tc = ((PL.take 22).getD 0 0 : Nat) ∧ tr = ((PL.take 22).getD 1 0 : Nat) ∧ tu = (be4 (PL.take 22) 2 : Nat)) := by
    rw [hPE]
    by_cases q : prvErr issS (PL.take 22) = 0
    · exact ⟨_, _, _, prvT_cells q, fun _ => ⟨rfl, rfl, rfl⟩⟩
    · exact ⟨_, _, _, prvT_none q, fun hn => (q hn).elim⟩
  have tk3 := tk.bels B3
  try simp (config := {maxSteps := 2000000, implicitDefEqProofs := false}) only [go_sem, ↓reduceIte, Nat.reduceEqDiff, Nat.reduceAdd, Nat.reduceMul, Nat.reduceLeDiff, Nat.reduceLT, Nat.reduceSub, IntWalk.iteOmega, IntWalk.toNatUp, reduceCtorEq, Int.reduceLE, Int.reduceLT, Int.reduceToNat, Int.reduceNeg, l42']
  refine VS.mono (N := fun F' g' => Bel h3.size h3 g' ∧ F' 0 = .slice (some ⟨bb, oo, none⟩) rc.length c ∧ F' 1 = .int .i64 now ∧ F' 4 = .pointer (some ⟨h.size, 0, none⟩) ∧ F' 9 = .slice p2 PL.length c2 ∧ F' 7 = .int .i64 PE ∧ ∃ A, h3.size ≤ A ∧ F' 10 = .pointer (some ⟨A, 0, none⟩) ∧ g'[A]? = some (.cells [.int .i64 tc, .int .i64 tr, .int .i64 tu].toArray 23)) ?_ ?_ (fun _ _ _ h => h) (fun _ _ h => h)
  · refine VS.w (h3.size) [] (.q 1 (.q 2 (.or 0 (.or 3 (.q 4 (.q 5 (.q 6 (.s 7 (.s 8 (.q 9 .nil)))))) (.s 7 (.s 3 (.q 4 (.q 5 (.q 6 (.s 8 (.q 9 .nil)))))))) (.s 7 (.s 0 (.s 3 (.q 4 (.q 5 (.q 6 (.s 8 (.q 9 .nil))))))))))) mixed (by kernel_rfl) ?_
    simp (config := {maxSteps := 2000000, implicitDefEqProofs := false}) only [go_sem, ↓reduceIte, Nat.reduceEqDiff, Nat.reduceAdd, Nat.reduceMul, Nat.reduceLeDiff, Nat.reduceLT, Nat.reduceSub, IntWalk.iteOmega, IntWalk.toNatUp, reduceCtorEq, Int.reduceLE, Int.reduceLT, Int.reduceToNat, Int.reduceNeg, n22]
    have zt : ∀ (G : Hp) (k : Nat) (w : List Value), w.length = 3 → w.all oneC = true → G[k]? = some (.cells [.int .i64 0, .int .i64 0, .int .i64 0].toArray 23) → wr G ⟨k, 0, none⟩ w = some (G.setIfInBounds k (.cells w.toArray 23)) := by
      intro G k w h3 h1 hx
      rw [wr_get (b := k) hx 0 w, lput_full (by rw [h3]; rfl), if_pos ⟨by rw [h3]; simp, h1⟩]
    refine ⟨?_, ?_⟩
    · refine (issuer_ok T h3 tk3).use ?_
      rintro w4 h4 ⟨⟨k4, o4⟩, b4⟩
      have s4 := b4.size
      simp (config := {maxSteps := 2000000, implicitDefEqProofs := false}) only [go_sem, ↓reduceIte, Nat.reduceEqDiff, Nat.reduceAdd, Nat.reduceMul, Nat.reduceLeDiff, Nat.reduceLT, Nat.reduceSub, IntWalk.iteOmega, IntWalk.toNatUp, reduceCtorEq, Int.reduceLE, Int.reduceLT, Int.reduceToNat, Int.reduceNeg, b4, n22]
      refine ⟨?_, ?_⟩
      · refine (prove_ok T h4 _ _ issS (PL.take 22) o4 (sT.bel b4) cT (tk3.bels b4)).use ?_
        rintro _ h5 ⟨rfl, b5⟩
        have s5 := b5.size
        have b35 : Bel h3.size h3 h5 := b4.trans (b5.mono s4)
        rw [hT, ← hPE]
        simp (config := {maxSteps := 2000000, implicitDefEqProofs := false}) only [go_sem, ↓reduceIte, Nat.reduceEqDiff, Nat.reduceAdd, Nat.reduceMul, Nat.reduceLeDiff, Nat.reduceLT, Nat.reduceSub, IntWalk.iteOmega, IntWalk.toNatUp, reduceCtorEq, Int.reduceLE, Int.reduceLT, Int.reduceToNat, Int.reduceNeg, b35]
        exact ⟨_, by omega, rfl, get_push_last⟩
      · have bp : Bel h4.size h4 (h4.push (.cells [.int .i64 0, .int .i64 0, .int .i64 0].toArray 23)) := Bel.push (Nat.le_refl _) _
        have bp3 : Bel h3.size h3 (h4.push (.cells [.int .i64 0, .int .i64 0, .int .i64 0].toArray 23)) := b4.trans (bp.mono s4)
        first | refine ⟨bp3, ?_⟩ | skip
        refine (prove_ok T (h4.push (.cells [.int .i64 0, .int .i64 0, .int .i64 0].toArray 23)) _ _ issS (PL.take 22) (o4.bel bp) ((sT.bel b4).bel bp) cT ((tk3.bels b4).bels bp)).use ?_
        rintro _ h5 ⟨rfl, b5⟩
        have s5 := b5.size
        have b35 : Bel h3.size h3 h5 := bp3.trans (b5.mono (by simp; omega))
        have xA := b5.get (by simp) get_push_last
        have yA := zt h5 h4.size [.int .i64 tc, .int .i64 tr, .int .i64 tu] rfl rfl xA
        have hz := lt_of_get xA
        rw [hT, ← hPE]
        simp (config := {maxSteps := 2000000, implicitDefEqProofs := false}) only [go_sem, ↓reduceIte, Nat.reduceEqDiff, Nat.reduceAdd, Nat.reduceMul, Nat.reduceLeDiff, Nat.reduceLT, Nat.reduceSub, IntWalk.iteOmega, IntWalk.toNatUp, reduceCtorEq, Int.reduceLE, Int.reduceLT, Int.reduceToNat, Int.reduceNeg, b35, yA, hz]
        first
          | exact ⟨b35.addSet (by omega) _, b35.addSet (by omega) _, _, by omega, rfl, get_set xA⟩
          | exact ⟨b35.addSet (by omega) _, _, by omega, rfl, get_set xA⟩
          | exact ⟨_, by omega, rfl, get_set xA⟩
    · have bp3 : Bel h3.size h3 (h3.push (.cells [.int .i64 0, .int .i64 0, .int .i64 0].toArray 23)) := Bel.push (Nat.le_refl _) _
      first | refine ⟨bp3, ?_⟩ | skip
      refine (issuer_ok T (h3.push (.cells [.int .i64 0, .int .i64 0, .int .i64 0].toArray 23)) (tk3.bels bp3)).use ?_
      rintro w4 h4 ⟨⟨k4, o4⟩, b4⟩
      have s4 := b4.size
      have b34 : Bel h3.size h3 h4 := bp3.trans (b4.mono (by simp))
      simp (config := {maxSteps := 2000000, implicitDefEqProofs := false}) only [go_sem, ↓reduceIte, Nat.reduceEqDiff, Nat.reduceAdd, Nat.reduceMul, Nat.reduceLeDiff, Nat.reduceLT, Nat.reduceSub, IntWalk.iteOmega, IntWalk.toNatUp, reduceCtorEq, Int.reduceLE, Int.reduceLT, Int.reduceToNat, Int.reduceNeg, b34, n22]
      refine (prove_ok T h4 _ _ issS (PL.take 22) o4 (sT.bel b34) cT (tk3.bels b34)).use ?_
      rintro _ h5 ⟨rfl, b5⟩
      have s5 := b5.size
      have b35 : Bel h3.size h3 h5 := b34.trans (b5.mono b34.size)
      have xA := b5.get (by simp at s4; omega) (b4.get (by simp) get_push_last)
      have yA := zt h5 h3.size [.int .i64 tc, .int .i64 tr, .int .i64 tu] rfl rfl xA
      have hz := lt_of_get xA
      rw [hT, ← hPE]
      simp (config := {maxSteps := 2000000, implicitDefEqProofs := false}) only [go_sem, ↓reduceIte, Nat.reduceEqDiff, Nat.reduceAdd, Nat.reduceMul, Nat.reduceLeDiff, Nat.reduceLT, Nat.reduceSub, IntWalk.iteOmega, IntWalk.toNatUp, reduceCtorEq, Int.reduceLE, Int.reduceLT, Int.reduceToNat, Int.reduceNeg, b35, yA, hz]
      first
        | exact ⟨b35.addSet (by omega) _, b35.addSet (by omega) _, _, by omega, rfl, get_set xA⟩
        | exact ⟨b35.addSet (by omega) _, _, by omega, rfl, get_set xA⟩
        | exact ⟨_, by omega, rfl, get_set xA⟩
  rintro F h6 ⟨b6, f0, f1, f4, f9, f7, A, hA3, f10, t6⟩
  have hA6 := lt_of_get t6
  have z6 := b6.get (by omega) z3
  have B6 := B3.trans (b6.mono B3.size)
  by_cases pe : PE = 0
  case neg =>
    have ee := show opnErr rc now = PE by rw [E2]; unfold opnE2; rw [← hPE, if_pos pe]
    rw [opnC_zero (by rw [ee]; exact pe), ee]
    have yz := fin h6 [.int .i64 0, .int .i64 0, .int .i64 0, .int .i64 0, .int .i64 0] rfl rfl z6
    have hz := lt_of_get z6
    simp (config := {maxSteps := 2000000, implicitDefEqProofs := false}) only [go_sem, ↓reduceIte, Nat.reduceEqDiff, Nat.reduceAdd, Nat.reduceMul, Nat.reduceLeDiff, Nat.reduceLT, Nat.reduceSub, IntWalk.iteOmega, IntWalk.toNatUp, reduceCtorEq, Int.reduceLE, Int.reduceLT, Int.reduceToNat, Int.reduceNeg, f0, f1, f4, f9, f7, f10, pe, yz, hz]
    try exact (B6).addSet (Nat.le_refl _) _
  have E3 : opnErr rc now = opnE3 PL X now := by rw [E2]; unfold opnE2; rw [← hPE, if_neg (fun hn => hn pe)]
  obtain ⟨rfl, rfl, rfl⟩ := hTok pe
  have n42 : (22 : Int) ≤ (PL.length : Int) := by omega
  obtain ⟨q2, d2, hv2, hh2⟩ := sPL.opend
  simp only [Value.slice.injEq, true_and] at hv2
  obtain ⟨rfl, rfl⟩ := hv2
  obtain ⟨b22, o22, rfl, _, _⟩ := hh2 (by intro e; rw [e] at l42; cases l42)
  have d22 : ¬ c2 = 22 := by omega
  have sB := bs_cutF (sPL.bel b6) (k := 22) (by omega) rfl (c2 - 22)
  simp (config := {maxSteps := 2000000, implicitDefEqProofs := false}) only [go_sem, ↓reduceIte, Nat.reduceEqDiff, Nat.reduceAdd, Nat.reduceMul, Nat.reduceLeDiff, Nat.reduceLT, Nat.reduceSub, IntWalk.iteOmega, IntWalk.toNatUp, reduceCtorEq, Int.reduceLE, Int.reduceLT, Int.reduceToNat, Int.reduceNeg, f0, f1, f4, f9, f7, f10, pe, n42, d22]
  refine (decode_ok T h6 _ (PL.drop 22) sB (by rw [List.length_drop]; omega)).use ?_
  rintro _ h7 ⟨rfl, b7⟩
  have s7 := b7.size
  have z7 := b7.get (by omega) z6
  have t7 := b7.get hA6 t6
  have B7 := B6.trans (b7.mono B6.size)
  obtain ⟨DE, hDE⟩ : ∃ DE, DE = decErr (PL.drop 22) := ⟨_, rfl⟩
  have hne : ¬ h.size = h7.size := by omega
  have hlt7 : h.size < h7.size := by omega
  by_cases de : DE = 0
  case neg =>
    have ee : opnErr rc now = DE := by rw [E3]; unfold opnE3; rw [← hDE, if_pos de]
    rw [opnC_zero (by rw [ee]; exact de), ee, decC_zero (by rw [← hDE]; exact de), ← hDE]
    have yz := fin h7 [.int .i64 0, .int .i64 0, .int .i64 0, .int .i64 0, .int .i64 0] rfl rfl z7
    simp (config := {maxSteps := 2000000, implicitDefEqProofs := false}) only [go_sem, ↓reduceIte, Nat.reduceEqDiff, Nat.reduceAdd, Nat.reduceMul, Nat.reduceLeDiff, Nat.reduceLT, Nat.reduceSub, IntWalk.iteOmega, IntWalk.toNatUp, reduceCtorEq, Int.reduceLE, Int.reduceLT, Int.reduceToNat, Int.reduceNeg, f0, f1, f4, f9, f7, f10, de, yz, hne, hlt7]
    try exact (B7.addSet (Nat.le_refl _) _).addP (by simp; omega) _
  have E4 : opnErr rc now = opnE4 PL X now := by rw [E3]; unfold opnE3; rw [← hDE, if_neg (fun hn => hn de)]
  rw [decC_some (by rw [← hDE]; exact de), ← hDE, de]
  have eA : opnA PL now = alErr ((PL.take 22).getD 0 0 : Nat) ((PL.take 22).getD 1 0 : Nat) (be4 (PL.take 22) 2 : Nat) (cmdI (PL.drop 22) 0) (cmdI (PL.drop 22) 1) (cmdI (PL.drop 22) 2) (cmdI (PL.drop 22) 3) (cmdI (PL.drop 22) 4) now := rfl
  have eC : opnErr rc now = 0 → opnC rc now = [.int .i64 (cmdI (PL.drop 22) 0), .int .i64 (cmdI (PL.drop 22) 1), .int .i64 (cmdI (PL.drop 22) 2), .int .i64 (cmdI (PL.drop 22) 3), .int .i64 (cmdI (PL.drop 22) 4)] := fun e => by rw [opnC_some e, ePL]
  have e4 : opnE4 PL X now = if cmdI (PL.drop 22) 0 ≠ 0 ∧ cmdI (PL.drop 22) 1 ≠ (X : Nat) then 11 else opnA PL now := rfl
  generalize cmdI (PL.drop 22) 0 = y0 at *
  generalize cmdI (PL.drop 22) 1 = y1 at *
  generalize cmdI (PL.drop 22) 2 = y2 at *
  generalize cmdI (PL.drop 22) 3 = y3 at *
  generalize cmdI (PL.drop 22) 4 = y4 at *
  obtain ⟨h8, hh8⟩ : ∃ h8 : Hp, h8 = h7.push (.cells [.int .i64 y0, .int .i64 y1, .int .i64 y2, .int .i64 y3, .int .i64 y4].toArray 25) := ⟨_, rfl⟩
  have e8 : h7.push (.cells #[Value.int .i64 y0, .int .i64 y1, .int .i64 y2, .int .i64 y3, .int .i64 y4] 25) = h8 := hh8.symm
  try simp (config := {maxSteps := 2000000, implicitDefEqProofs := false}) only [go_sem, ↓reduceIte, Nat.reduceEqDiff, Nat.reduceAdd, Nat.reduceMul, Nat.reduceLeDiff, Nat.reduceLT, Nat.reduceSub, IntWalk.iteOmega, IntWalk.toNatUp, reduceCtorEq, Int.reduceLE, Int.reduceLT, Int.reduceToNat, Int.reduceNeg, f0, f1, f4, f9, f7, f10, de]
  rw [e8]
  have b8 : Bel h7.size h7 h8 := by rw [hh8]; exact Bel.push (Nat.le_refl _) _
  have s8 : h8.size = h7.size + 1 := by rw [hh8]; simp
  have c8 : h8[h7.size]? = some (.cells [.int .i64 y0, .int .i64 y1, .int .i64 y2, .int .i64 y3, .int .i64 y4].toArray 25) := by rw [hh8]; exact get_push_last
  clear e8 hh8
  have z8 := b8.get (by omega) z7
  have t8 := b8.get (by omega) t7
  have B8 := B7.trans (b8.mono B7.size)
  have k80 : V.hc h8 ⟨h7.size, 0, none⟩ = some (.int .i64 y0) := by rw [hc_last c8]; rfl
  have k81 : V.hc h8 ⟨h7.size, 1, none⟩ = some (.int .i64 y1) := by rw [hc_last c8]; rfl
  have rT8 : rd h8 ⟨A, 0, none⟩ 3 = _ := rd_last t8 rfl
  have rC8 : rd h8 ⟨h7.size, 0, none⟩ 5 = _ := rd_last c8 rfl
  have b18 : Bel h1.size h1 h8 := (b2.trans ((b3.mono s2).trans ((b6.mono (by omega)).trans ((b7.mono (by omega)).trans (b8.mono (by omega))))))
  have x8 : V.hc h8 ⟨bb, oo, none⟩ = some (.int .u8 (X : Nat)) := by
    rw [b18.hc (by show bb < h1.size; omega), b1.hc (by exact hbb)]; exact x0
  have yz8 := fin h8 [.int .i64 0, .int .i64 0, .int .i64 0, .int .i64 0, .int .i64 0] rfl rfl z8
  have yc8 := fin h8 [.int .i64 y0, .int .i64 y1, .int .i64 y2, .int .i64 y3, .int .i64 y4] rfl rfl z8
  have hz8 := lt_of_get z8
  refine VS.mono (N := fun F' g' => g' = h8 ∧ F' 0 = .slice (some ⟨bb, oo, none⟩) rc.length c ∧ F' 1 = .int .i64 now ∧ F' 4 = .pointer (some ⟨h.size, 0, none⟩) ∧ F' 10 = .pointer (some ⟨A, 0, none⟩) ∧ F' 11 = .pointer (some ⟨h7.size, 0, none⟩) ∧ F' 78 = .bool (decide (y0 ≠ 0 ∧ y1 ≠ (X : Nat)))) ?_ ?_ (fun _ _ _ h => h) (fun _ _ h => h)
  · refine VS.q mixed (by kernel_rfl) ?_
    by_cases w0 : y0 = 0
    · have hd : decide (y0 ≠ 0 ∧ y1 ≠ (X : Nat)) = false := decide_eq_false (fun hn => hn.1 w0)
      rw [hd]
      simp (config := {maxSteps := 2000000, implicitDefEqProofs := false}) only [go_sem, ↓reduceIte, Nat.reduceEqDiff, Nat.reduceAdd, Nat.reduceMul, Nat.reduceLeDiff, Nat.reduceLT, Nat.reduceSub, IntWalk.iteOmega, IntWalk.toNatUp, reduceCtorEq, Int.reduceLE, Int.reduceLT, Int.reduceToNat, Int.reduceNeg, f0, f1, f4, f9, f7, f10, k80, w0]
    · by_cases w1 : y1 = (X : Nat)
      · have hd : decide (y0 ≠ 0 ∧ y1 ≠ (X : Nat)) = false := decide_eq_false (fun hn => hn.2 w1)
        rw [hd]
        simp (config := {maxSteps := 2000000, implicitDefEqProofs := false}) only [go_sem, ↓reduceIte, Nat.reduceEqDiff, Nat.reduceAdd, Nat.reduceMul, Nat.reduceLeDiff, Nat.reduceLT, Nat.reduceSub, IntWalk.iteOmega, IntWalk.toNatUp, reduceCtorEq, Int.reduceLE, Int.reduceLT, Int.reduceToNat, Int.reduceNeg, f0, f1, f4, f9, f7, f10, k80, k81, x8, n0, w0, w1]
      · have hd : decide (y0 ≠ 0 ∧ y1 ≠ (X : Nat)) = true := decide_eq_true ⟨w0, w1⟩
        rw [hd]
        simp (config := {maxSteps := 2000000, implicitDefEqProofs := false}) only [go_sem, ↓reduceIte, Nat.reduceEqDiff, Nat.reduceAdd, Nat.reduceMul, Nat.reduceLeDiff, Nat.reduceLT, Nat.reduceSub, IntWalk.iteOmega, IntWalk.toNatUp, reduceCtorEq, Int.reduceLE, Int.reduceLT, Int.reduceToNat, Int.reduceNeg, f0, f1, f4, f9, f7, f10, k80, k81, x8, n0, w0, w1]
  rintro F' g8 ⟨hg8, g0, g1, g4, gt, gc, gb⟩
  rw [hg8]
  clear hg8
  by_cases wr' : y0 ≠ 0 ∧ y1 ≠ (X : Nat)
  case pos =>
    have ee : opnErr rc now = 11 := by rw [E4, e4, if_pos wr']
    rw [decide_eq_true wr'] at gb
    rw [opnC_zero (by rw [ee]; decide), ee]
    simp (config := {maxSteps := 2000000, implicitDefEqProofs := false}) only [go_sem, ↓reduceIte, Nat.reduceEqDiff, Nat.reduceAdd, Nat.reduceMul, Nat.reduceLeDiff, Nat.reduceLT, Nat.reduceSub, IntWalk.iteOmega, IntWalk.toNatUp, reduceCtorEq, Int.reduceLE, Int.reduceLT, Int.reduceToNat, Int.reduceNeg, g4, gb, yz8, hz8]
    try exact B8.addSet (Nat.le_refl _) _
  have E5 : opnErr rc now = opnA PL now := by rw [E4, e4, if_neg wr']
  rw [decide_eq_false wr'] at gb
  have hal : CallsH Tryd.prog T 21 #[.agg #[.int .i64 ((PL.take 22).getD 0 0 : Nat), .int .i64 ((PL.take 22).getD 1 0 : Nat), .int .i64 (be4 (PL.take 22) 2 : Nat)], .agg #[.int .i64 y0, .int .i64 y1, .int .i64 y2, .int .i64 y3, .int .i64 y4], .int .i64 now] h8 fun v' h' => v' = .int .i64 (opnA PL now) ∧ Bel h8.size h8 h' := by
    rw [eA]
    exact allows_ok T h8 _ _ _ y0 y1 y2 y3 y4 now (tn.bels B8)
  simp (config := {maxSteps := 2000000, implicitDefEqProofs := false}) only [go_sem, ↓reduceIte, Nat.reduceEqDiff, Nat.reduceAdd, Nat.reduceMul, Nat.reduceLeDiff, Nat.reduceLT, Nat.reduceSub, IntWalk.iteOmega, IntWalk.toNatUp, reduceCtorEq, Int.reduceLE, Int.reduceLT, Int.reduceToNat, Int.reduceNeg, g0, g1, g4, gt, gc, gb, rT8, rC8]
  refine hal.use ?_
  rintro _ h9 ⟨rfl, b9⟩
  have s9 := b9.size
  have z9 := b9.get (by omega) z8
  have c9 := b9.get (by omega) c8
  have rC9 : rd h9 ⟨h7.size, 0, none⟩ 5 = _ := rd_last c9 rfl
  have B9 := B8.trans (b9.mono B8.size)
  have yz9 := fin h9 [.int .i64 0, .int .i64 0, .int .i64 0, .int .i64 0, .int .i64 0] rfl rfl z9
  have yc9 := fin h9 [.int .i64 y0, .int .i64 y1, .int .i64 y2, .int .i64 y3, .int .i64 y4] rfl rfl z9
  have hz9 := lt_of_get z9
  generalize opnA PL now = OA at *
  by_cases oa : OA = 0
  · have ee : opnErr rc now = 0 := by rw [E5, oa]
    rw [eC ee, ee]
    simp (config := {maxSteps := 2000000, implicitDefEqProofs := false}) only [go_sem, ↓reduceIte, Nat.reduceEqDiff, Nat.reduceAdd, Nat.reduceMul, Nat.reduceLeDiff, Nat.reduceLT, Nat.reduceSub, IntWalk.iteOmega, IntWalk.toNatUp, reduceCtorEq, Int.reduceLE, Int.reduceLT, Int.reduceToNat, Int.reduceNeg, g4, gc, oa, rC9, yc9, hz9]
    try exact B9.addSet (Nat.le_refl _) _
  · rw [opnC_zero (by rw [E5]; exact oa), E5]
    simp (config := {maxSteps := 2000000, implicitDefEqProofs := false}) only [go_sem, ↓reduceIte, Nat.reduceEqDiff, Nat.reduceAdd, Nat.reduceMul, Nat.reduceLeDiff, Nat.reduceLT, Nat.reduceSub, IntWalk.iteOmega, IntWalk.toNatUp, reduceCtorEq, Int.reduceLE, Int.reduceLT, Int.reduceToNat, Int.reduceNeg, g4, gc, oa, yz9, hz9]
    try exact B9.addSet (Nat.le_refl _) _
set_option maxHeartbeats 2000000 in
theorem unpacked_ok (T : World) (h : Hp) (v : Value) (rc : List Nat) (now : Int) (s : Bs h v rc) (hcap : Cap v) (hrl : rc.length ≤ 140737488355328) :
    CallsH Tryd.prog T 64 #[v, .int .i64 now] h fun v' h' => v' = .tuple [.agg (opnC rc now).toArray, .int .i64 (opnErr rc now)].toArray ∧ Bel h.size h h' := by
  obtain ⟨p, c, rfl, _⟩ := s.open
  have hc0 : rc.length ≤ c := hcap
  refine CallsH.of_code2 (args := [_, _]) Tryd.func64 rfl rfl rfl rfl ?_
  simp (config := {maxSteps := 2000000, implicitDefEqProofs := false}) only [go_sem, ↓reduceIte, Nat.reduceEqDiff, Nat.reduceAdd, Nat.reduceMul, Nat.reduceLeDiff, Nat.reduceLT, Nat.reduceSub, IntWalk.iteOmega, IntWalk.toNatUp, reduceCtorEq, Int.reduceLE, Int.reduceLT, Int.reduceToNat, Int.reduceNeg]
  obtain ⟨h0, hh0⟩ : ∃ h0 : Hp, h0 = h.push (.cells [.int .i64 0, .int .i64 0, .int .i64 0, .int .i64 0, .int .i64 0].toArray 25) := ⟨_, rfl⟩
  have b0 : Bel h.size h h0 := by rw [hh0]; exact (Bel.refl _ _).add _
  have s0 : h0.size = h.size + 1 := by rw [hh0]; simp
  have z0 : h0[h.size]? = some (.cells [.int .i64 0, .int .i64 0, .int .i64 0, .int .i64 0, .int .i64 0].toArray 25) := by rw [hh0]; exact get_push_last
  have e0 : h.push (.cells #[Value.int .i64 0, .int .i64 0, .int .i64 0, .int .i64 0, .int .i64 0] 25) = h0 := hh0.symm
  have e0' : h.push (.cells [Value.int .i64 0, .int .i64 0, .int .i64 0, .int .i64 0, .int .i64 0].toArray 25) = h0 := hh0.symm
  first | rw [e0] | rw [e0']
  clear e0 e0' hh0
  have fin : ∀ (G : Hp) (w : List Value), w.length = 5 → w.all oneC = true → G[h.size]? = some (.cells [.int .i64 0, .int .i64 0, .int .i64 0, .int .i64 0, .int .i64 0].toArray 25) → wr G ⟨h.size, 0, none⟩ w = some (G.setIfInBounds h.size (.cells w.toArray 25)) := by
    intro G w h3 h1 hx
    rw [wr_get (b := h.size) hx 0 w, lput_full (by rw [h3]; rfl), if_pos ⟨by rw [h3]; simp, h1⟩]
  by_cases l0 : rc.length = 0
  case pos =>
    have l0' : (rc.length : Int) = 0 := by omega
    have ee := show opnErr rc now = 13 by unfold opnErr; rw [if_pos l0]
    rw [opnC_zero (by rw [ee]; exact (by decide)), ee]
    have yz := fin h0 [.int .i64 0, .int .i64 0, .int .i64 0, .int .i64 0, .int .i64 0] rfl rfl z0
    have hz := lt_of_get z0
    simp (config := {maxSteps := 2000000, implicitDefEqProofs := false}) only [go_sem, ↓reduceIte, Nat.reduceEqDiff, Nat.reduceAdd, Nat.reduceMul, Nat.reduceLeDiff, Nat.reduceLT, Nat.reduceSub, IntWalk.iteOmega, IntWalk.toNatUp, reduceCtorEq, Int.reduceLE, Int.reduceLT, Int.reduceToNat, Int.reduceNeg, l0', yz, hz]
    try exact (b0).addSet (Nat.le_refl _) _
  have l0' : ¬ (rc.length : Int) = 0 := by omega
  have n0 : (0 : Int) < (rc.length : Int) := by omega
  have n1 : (1 : Int) ≤ (rc.length : Int) := by omega
  obtain ⟨q', d', hv, hh⟩ := (s.bel b0).opend
  simp only [Value.slice.injEq, true_and] at hv
  obtain ⟨rfl, rfl⟩ := hv
  obtain ⟨bb, oo, rfl, hbb, hcs⟩ := hh (by intro e; subst e; simp at l0)
  have x0 := hcs 0 (by omega)
  rw [Nat.add_zero] at x0
  have hx0 := getD_byte s.byte 0
  obtain ⟨X, hX⟩ : ∃ X, X = rc.getD 0 0 := ⟨_, rfl⟩
  rw [← hX] at x0 hx0
  obtain ⟨PL, hPL⟩ : ∃ PL, PL = takeS (cliS X) (rc.drop 1) := ⟨_, rfl⟩
  obtain ⟨te, hte⟩ : ∃ te, te = takeErr (cliS X) 0 0 noSeen (rc.drop 1) := ⟨_, rfl⟩
  have ePL : opnPl rc = PL := by rw [hPL, hX]; rfl
  have E00 : opnErr rc now = if keyErr (X : Nat) ≠ 0 then keyErr (X : Nat) else opnE0 te PL X now := by
    unfold opnErr
    rw [if_neg l0, ← hX, ← hte, ePL]
  simp (config := {maxSteps := 2000000, implicitDefEqProofs := false}) only [go_sem, ↓reduceIte, Nat.reduceEqDiff, Nat.reduceAdd, Nat.reduceMul, Nat.reduceLeDiff, Nat.reduceLT, Nat.reduceSub, IntWalk.iteOmega, IntWalk.toNatUp, reduceCtorEq, Int.reduceLE, Int.reduceLT, Int.reduceToNat, Int.reduceNeg, l0', n0, x0]
  refine (clientKey_ok T h0 _).use ?_
  rintro _ h1 ⟨⟨w1, rfl, k1, o1, f1⟩, b1⟩
  have B1 := b0.trans (b1.mono b0.size)
  have s1 := b1.size
  have z1 := b1.get (by omega) z0
  by_cases ke : keyErr (X : Nat) = 0
  case neg =>
    generalize keyErr (X : Nat) = KE at *
    have ee := show opnErr rc now = KE by rw [E00, if_pos ke]
    rw [opnC_zero (by rw [ee]; exact ke), ee]
    have yz := fin h1 [.int .i64 0, .int .i64 0, .int .i64 0, .int .i64 0, .int .i64 0] rfl rfl z1
    have hz := lt_of_get z1
    simp (config := {maxSteps := 2000000, implicitDefEqProofs := false}) only [go_sem, ↓reduceIte, Nat.reduceEqDiff, Nat.reduceAdd, Nat.reduceMul, Nat.reduceLeDiff, Nat.reduceLT, Nat.reduceSub, IntWalk.iteOmega, IntWalk.toNatUp, reduceCtorEq, Int.reduceLE, Int.reduceLT, Int.reduceToNat, Int.reduceNeg, ke, yz, hz]
    try exact (B1).addSet (Nat.le_refl _) _
  have E0 : opnErr rc now = opnE0 te PL X now := by rw [E00, if_neg (fun hn => hn ke)]
  rw [ke, if_pos rfl, Int.toNat_natCast] at o1
  rw [ke]
  have x7 : X ≤ 7 := by unfold keyErr at ke; split at ke <;> omega
  obtain ⟨p1, c1, rfl, hc1⟩ := o1.open
  have lk := cliS_length X
  obtain ⟨P1, hP1⟩ : ∃ P1, P1 = if c = 1 then some (⟨bb, oo, none⟩ : Addr) else some ⟨bb, oo + 1, none⟩ := ⟨_, rfl⟩
  have sD : Bs h1 (.slice P1 (rc.length - 1) (c - 1)) (rc.drop 1) := by
    have sb1 := (s.bel b0).bel b1
    by_cases hc : c = 1
    · have hl1 : rc.length = 1 := by omega
      have hd : rc.drop 1 = [] := List.drop_eq_nil_of_le (by omega)
      rw [hd, hl1, hc]
      exact ⟨(Own.nil' 0 0 1 h1 P1).sl, fun x hx => by cases hx⟩
    · rw [hP1, if_neg hc]
      exact bs_cutF sb1 (k := 1) (by omega) rfl _
  have capD : Cap (.slice P1 (rc.length - 1) (c - 1)) := by show rc.length - 1 ≤ c - 1; omega
  have htk : CallsH Tryd.prog T 114 #[.agg #[.slice p1 (cliS X).length c1, .int .i64 0, .int .i64 0, .bool false, .bool false, .bool false, .bool false, .bool false, .bool false, .bool false, .bool false], .slice P1 (rc.length - 1) (c - 1)] h1 fun v' h' => TakeRes h1.size h' v' (cliS X) 0 0 noSeen (rc.drop 1) ∧ Bel h1.size h1 h' := takenFrom_ok T h1 _ _ (cliS X) (rc.drop 1) 0 0 noSeen rfl o1 sD capD (by omega) (by omega)
  simp (config := {maxSteps := 2000000, implicitDefEqProofs := false}) only [go_sem, ↓reduceIte, Nat.reduceEqDiff, Nat.reduceAdd, Nat.reduceMul, Nat.reduceLeDiff, Nat.reduceLT, Nat.reduceSub, IntWalk.iteOmega, IntWalk.toNatUp, reduceCtorEq, Int.reduceLE, Int.reduceLT, Int.reduceToNat, Int.reduceNeg, n1]
  try rw [← hP1]
  refine htk.use ?_
  rintro _ h2 ⟨⟨cw, w2, rfl, ⟨w3, rfl, o3⟩, o2⟩, b2⟩
  rw [← hte] at o2 o3 ⊢
  rw [← hPL] at o2
  have B2 := B1.trans (b2.mono B1.size)
  have s2 := b2.size
  have z2 := b2.get (by omega) z1
  obtain ⟨CC, hCC⟩ : ∃ CC, CC = chanC w3 (if te = 0 then 0 else 0) (if te = 0 then max 0 (((rec4 (rc.drop 1) : Nat) : Int) + 1) else 0) (if te = 0 then seenT 0 noSeen (rec4 (rc.drop 1)) else noSeen) := ⟨_, rfl⟩
  obtain ⟨p3, c3, rfl, _⟩ := o3.open
  have lsn : (if te = 0 then seenT 0 noSeen (rec4 (rc.drop 1)) else noSeen).length = 8 := by
    split
    · exact seenOf_length _ _
    · rfl
  have hCl : CC.length = 11 := by rw [hCC]; exact chanC_length _ _ _ _ lsn
  have hCo : CC.all oneC = true := by rw [hCC]; exact chanC_one _ _ _
  have hCp : lput [Value.slice none 0 0, .int .i64 0, .int .i64 0, .bool false, .bool false, .bool false, .bool false, .bool false, .bool false, .bool false, .bool false] 0 CC = CC := lput_full (by rw [hCl]; rfl)
  have hCle : CC.length ≤ 11 := by omega
  rw [← hCC]
  obtain ⟨h3, hh3⟩ : ∃ h3 : Hp, h3 = h2.push (.cells CC.toArray 143) := ⟨_, rfl⟩
  have b3 : Bel h2.size h2 h3 := by rw [hh3]; exact Bel.push (Nat.le_refl _) _
  have s3 : h3.size = h2.size + 1 := by rw [hh3]; simp
  have z3 := b3.get (by omega) z2
  have B3 := B2.trans (b3.mono B2.size)
  have o23 := o2.bel b3 (Nat.le_refl _)
  obtain ⟨p2, c2, rfl, hc2⟩ := o2.open
  have yz2 := fin h2 [.int .i64 0, .int .i64 0, .int .i64 0, .int .i64 0, .int .i64 0] rfl rfl z2
  have hne2 : ¬ h.size = h2.size := by omega
  have hlt2 : h.size < h2.size := by omega
  by_cases te0 : te = 0
  case neg =>
    have ee : opnErr rc now = te := by rw [E0]; unfold opnE0; rw [if_pos te0]
    rw [opnC_zero (by rw [ee]; exact te0), ee]
    simp (config := {maxSteps := 2000000, implicitDefEqProofs := false}) only [go_sem, ↓reduceIte, Nat.reduceEqDiff, Nat.reduceAdd, Nat.reduceMul, Nat.reduceLeDiff, Nat.reduceLT, Nat.reduceSub, IntWalk.iteOmega, IntWalk.toNatUp, reduceCtorEq, Int.reduceLE, Int.reduceLT, Int.reduceToNat, Int.reduceNeg, hCl, hCo, hCp, hCle, te0, yz2, hne2, hlt2]
    try exact (B2.addSet (Nat.le_refl _) _).addP (by simp; omega) _
  have E1 : opnErr rc now = opnE1 PL X now := by rw [E0]; unfold opnE0; rw [if_neg (fun hn => hn te0)]
  rw [if_pos te0] at o23 hc2
  try simp only [if_pos te0]
  by_cases l42 : PL.length = 42
  case neg =>
    have l42' : ¬ (PL.length : Int) = 42 := by omega
    have ee : opnErr rc now = 3 := by rw [E1]; unfold opnE1; rw [if_pos l42]
    rw [opnC_zero (by rw [ee]; decide), ee]
    simp (config := {maxSteps := 2000000, implicitDefEqProofs := false}) only [go_sem, ↓reduceIte, Nat.reduceEqDiff, Nat.reduceAdd, Nat.reduceMul, Nat.reduceLeDiff, Nat.reduceLT, Nat.reduceSub, IntWalk.iteOmega, IntWalk.toNatUp, reduceCtorEq, Int.reduceLE, Int.reduceLT, Int.reduceToNat, Int.reduceNeg, hCl, hCo, hCp, hCle, te0, l42', yz2, hne2, hlt2]
    try exact (B2.addSet (Nat.le_refl _) _).addP (by simp; omega) _
  have l42' : (PL.length : Int) = 42 := by omega
  have E2 : opnErr rc now = opnE2 PL X now := by rw [E1]; unfold opnE1; rw [if_neg (fun hn => hn l42)]
  simp (config := {maxSteps := 2000000, implicitDefEqProofs := false}) only [go_sem, ↓reduceIte, Nat.reduceEqDiff, Nat.reduceAdd, Nat.reduceMul, Nat.reduceLeDiff, Nat.reduceLT, Nat.reduceSub, IntWalk.iteOmega, IntWalk.toNatUp, reduceCtorEq, Int.reduceLE, Int.reduceLT, Int.reduceToNat, Int.reduceNeg, hCl, hCo, hCp, hCle, te0, l42']
  rw [← hh3]
  clear hh3 hCC o2 o3 hte
  have n22 : (22 : Int) ≤ (c2 : Int) := by omega
  have sPL := o23.bs
  have sT : Bs h3 (.slice p2 22 c2) (PL.take 22) := sPL.fore (by omega) c2
  have cT : Cap (.slice p2 22 c2) := by show 22 ≤ c2; omega
  try simp (config := {maxSteps := 2000000, implicitDefEqProofs := false}) only [go_sem, ↓reduceIte, Nat.reduceEqDiff, Nat.reduceAdd, Nat.reduceMul, Nat.reduceLeDiff, Nat.reduceLT, Nat.reduceSub, IntWalk.iteOmega, IntWalk.toNatUp, reduceCtorEq, Int.reduceLE, Int.reduceLT, Int.reduceToNat, Int.reduceNeg, l42']
  refine (issuerKey_ok T h3).use ?_
  rintro w4 h4 ⟨⟨k4, o4⟩, b4⟩
  have s4 := b4.size
  simp (config := {maxSteps := 2000000, implicitDefEqProofs := false}) only [go_sem, ↓reduceIte, Nat.reduceEqDiff, Nat.reduceAdd, Nat.reduceMul, Nat.reduceLeDiff, Nat.reduceLT, Nat.reduceSub, IntWalk.iteOmega, IntWalk.toNatUp, reduceCtorEq, Int.reduceLE, Int.reduceLT, Int.reduceToNat, Int.reduceNeg, n22, Int.toNat_natCast]
  refine (proved_ok T h4 _ _ issS (PL.take 22) o4 (sT.bel b4) cT).use ?_
  rintro _ h5 ⟨rfl, b5⟩
  have s5 := b5.size
  have b35 : Bel h3.size h3 h5 := b4.trans (b5.mono s4)
  have z5 := b35.get (by omega) z3
  obtain ⟨PE, hPE⟩ : ∃ PE, PE = prvErr issS (PL.take 22) := ⟨_, rfl⟩
  obtain ⟨tc, tr, tu, hT, hTok⟩ : ∃ tc tr tu : Int, prvT issS (PL.take 22) = [.int .i64 tc, .int .i64 tr, .int .i64 tu] ∧ (PE = 0 → tc = ((PL.take 22).getD 0 0 : Nat) ∧ tr = ((PL.take 22).getD 1 0 : Nat) ∧ tu = (be4 (PL.take 22) 2 : Nat)) := by
    rw [hPE]
    by_cases q : prvErr issS (PL.take 22) = 0
    · exact ⟨_, _, _, prvT_cells q, fun _ => ⟨rfl, rfl, rfl⟩⟩
    · exact ⟨_, _, _, prvT_none q, fun hn => (q hn).elim⟩
  rw [hT, ← hPE]
  have yz5 := fin h5 [.int .i64 0, .int .i64 0, .int .i64 0, .int .i64 0, .int .i64 0] rfl rfl z5
  have hne5 : ¬ h.size = h5.size := by omega
  have hlt5 : h.size < h5.size := by omega
  have B5 : Bel h.size h h5 := B3.trans (b35.mono B3.size)
  by_cases pe : PE = 0
  case neg =>
    have ee : opnErr rc now = PE := by rw [E2]; unfold opnE2; rw [← hPE, if_pos pe]
    rw [opnC_zero (by rw [ee]; exact pe), ee]
    simp (config := {maxSteps := 2000000, implicitDefEqProofs := false}) only [go_sem, ↓reduceIte, Nat.reduceEqDiff, Nat.reduceAdd, Nat.reduceMul, Nat.reduceLeDiff, Nat.reduceLT, Nat.reduceSub, IntWalk.iteOmega, IntWalk.toNatUp, reduceCtorEq, Int.reduceLE, Int.reduceLT, Int.reduceToNat, Int.reduceNeg, pe, yz5, hne5, hlt5]
    try exact (B5.addSet (Nat.le_refl _) _).addP (by simp; omega) _
  obtain ⟨h6, hh6⟩ : ∃ h6 : Hp, h6 = h5.push (.cells [.int .i64 tc, .int .i64 tr, .int .i64 tu].toArray 23) := ⟨_, rfl⟩
  have e6 : h5.push (.cells #[Value.int .i64 tc, .int .i64 tr, .int .i64 tu] 23) = h6 := hh6.symm
  simp (config := {maxSteps := 2000000, implicitDefEqProofs := false}) only [go_sem, ↓reduceIte, Nat.reduceEqDiff, Nat.reduceAdd, Nat.reduceMul, Nat.reduceLeDiff, Nat.reduceLT, Nat.reduceSub, IntWalk.iteOmega, IntWalk.toNatUp, reduceCtorEq, Int.reduceLE, Int.reduceLT, Int.reduceToNat, Int.reduceNeg, pe]
  rw [e6]
  obtain ⟨A, hA⟩ : ∃ A, A = h5.size := ⟨_, rfl⟩
  rw [← hA]
  have b6 : Bel h3.size h3 h6 := by rw [hh6]; exact b35.addP b35.size _
  have s6 : h6.size = h5.size + 1 := by rw [hh6]; simp
  have t6 : h6[A]? = some (.cells [.int .i64 tc, .int .i64 tr, .int .i64 tu].toArray 23) := by rw [hh6, hA]; exact get_push_last
  have hA3 : h3.size ≤ A := by omega
  have hA6 : A < h6.size := by omega
  clear e6 hh6
  have z6 := b6.get (by omega) z3
  have B6 := B3.trans (b6.mono B3.size)
  have E3 : opnErr rc now = opnE3 PL X now := by rw [E2]; unfold opnE2; rw [← hPE, if_neg (fun hn => hn pe)]
  obtain ⟨rfl, rfl, rfl⟩ := hTok pe
  have n42 : (22 : Int) ≤ (PL.length : Int) := by omega
  obtain ⟨q2, d2, hv2, hh2⟩ := sPL.opend
  simp only [Value.slice.injEq, true_and] at hv2
  obtain ⟨rfl, rfl⟩ := hv2
  obtain ⟨b22, o22, rfl, _, _⟩ := hh2 (by intro e; rw [e] at l42; cases l42)
  have d22 : ¬ c2 = 22 := by omega
  have sB := bs_cutF (sPL.bel b6) (k := 22) (by omega) rfl (c2 - 22)
  simp (config := {maxSteps := 2000000, implicitDefEqProofs := false}) only [go_sem, ↓reduceIte, Nat.reduceEqDiff, Nat.reduceAdd, Nat.reduceMul, Nat.reduceLeDiff, Nat.reduceLT, Nat.reduceSub, IntWalk.iteOmega, IntWalk.toNatUp, reduceCtorEq, Int.reduceLE, Int.reduceLT, Int.reduceToNat, Int.reduceNeg, pe, n42, d22]
  refine (commandOf_ok T h6 _ (PL.drop 22) sB (by rw [List.length_drop]; omega)).use ?_
  rintro _ h7 ⟨rfl, b7⟩
  have s7 := b7.size
  have z7 := b7.get (by omega) z6
  have t7 := b7.get hA6 t6
  have B7 := B6.trans (b7.mono B6.size)
  obtain ⟨DE, hDE⟩ : ∃ DE, DE = decErr (PL.drop 22) := ⟨_, rfl⟩
  have hne : ¬ h.size = h7.size := by omega
  have hlt7 : h.size < h7.size := by omega
  by_cases de : DE = 0
  case neg =>
    have ee : opnErr rc now = DE := by rw [E3]; unfold opnE3; rw [← hDE, if_pos de]
    rw [opnC_zero (by rw [ee]; exact de), ee, decC_zero (by rw [← hDE]; exact de), ← hDE]
    have yz := fin h7 [.int .i64 0, .int .i64 0, .int .i64 0, .int .i64 0, .int .i64 0] rfl rfl z7
    simp (config := {maxSteps := 2000000, implicitDefEqProofs := false}) only [go_sem, ↓reduceIte, Nat.reduceEqDiff, Nat.reduceAdd, Nat.reduceMul, Nat.reduceLeDiff, Nat.reduceLT, Nat.reduceSub, IntWalk.iteOmega, IntWalk.toNatUp, reduceCtorEq, Int.reduceLE, Int.reduceLT, Int.reduceToNat, Int.reduceNeg, de, yz, hne, hlt7]
    try exact (B7.addSet (Nat.le_refl _) _).addP (by simp; omega) _
  have E4 : opnErr rc now = opnE4 PL X now := by rw [E3]; unfold opnE3; rw [← hDE, if_neg (fun hn => hn de)]
  rw [decC_some (by rw [← hDE]; exact de), ← hDE, de]
  have eA : opnA PL now = alErr ((PL.take 22).getD 0 0 : Nat) ((PL.take 22).getD 1 0 : Nat) (be4 (PL.take 22) 2 : Nat) (cmdI (PL.drop 22) 0) (cmdI (PL.drop 22) 1) (cmdI (PL.drop 22) 2) (cmdI (PL.drop 22) 3) (cmdI (PL.drop 22) 4) now := rfl
  have eC : opnErr rc now = 0 → opnC rc now = [.int .i64 (cmdI (PL.drop 22) 0), .int .i64 (cmdI (PL.drop 22) 1), .int .i64 (cmdI (PL.drop 22) 2), .int .i64 (cmdI (PL.drop 22) 3), .int .i64 (cmdI (PL.drop 22) 4)] := fun e => by rw [opnC_some e, ePL]
  have e4 : opnE4 PL X now = if cmdI (PL.drop 22) 0 ≠ 0 ∧ cmdI (PL.drop 22) 1 ≠ (X : Nat) then 11 else opnA PL now := rfl
  generalize cmdI (PL.drop 22) 0 = y0 at *
  generalize cmdI (PL.drop 22) 1 = y1 at *
  generalize cmdI (PL.drop 22) 2 = y2 at *
  generalize cmdI (PL.drop 22) 3 = y3 at *
  generalize cmdI (PL.drop 22) 4 = y4 at *
  obtain ⟨h8, hh8⟩ : ∃ h8 : Hp, h8 = h7.push (.cells [.int .i64 y0, .int .i64 y1, .int .i64 y2, .int .i64 y3, .int .i64 y4].toArray 25) := ⟨_, rfl⟩
  have e8 : h7.push (.cells #[Value.int .i64 y0, .int .i64 y1, .int .i64 y2, .int .i64 y3, .int .i64 y4] 25) = h8 := hh8.symm
  try simp (config := {maxSteps := 2000000, implicitDefEqProofs := false}) only [go_sem, ↓reduceIte, Nat.reduceEqDiff, Nat.reduceAdd, Nat.reduceMul, Nat.reduceLeDiff, Nat.reduceLT, Nat.reduceSub, IntWalk.iteOmega, IntWalk.toNatUp, reduceCtorEq, Int.reduceLE, Int.reduceLT, Int.reduceToNat, Int.reduceNeg, de]
  rw [e8]
  have b8 : Bel h7.size h7 h8 := by rw [hh8]; exact Bel.push (Nat.le_refl _) _
  have s8 : h8.size = h7.size + 1 := by rw [hh8]; simp
  have c8 : h8[h7.size]? = some (.cells [.int .i64 y0, .int .i64 y1, .int .i64 y2, .int .i64 y3, .int .i64 y4].toArray 25) := by rw [hh8]; exact get_push_last
  clear e8 hh8
  have z8 := b8.get (by omega) z7
  have t8 := b8.get (by omega) t7
  have B8 := B7.trans (b8.mono B7.size)
  have k80 : V.hc h8 ⟨h7.size, 0, none⟩ = some (.int .i64 y0) := by rw [hc_last c8]; rfl
  have k81 : V.hc h8 ⟨h7.size, 1, none⟩ = some (.int .i64 y1) := by rw [hc_last c8]; rfl
  have rT8 : rd h8 ⟨A, 0, none⟩ 3 = _ := rd_last t8 rfl
  have rC8 : rd h8 ⟨h7.size, 0, none⟩ 5 = _ := rd_last c8 rfl
  have b18 : Bel h1.size h1 h8 := (b2.trans ((b3.mono s2).trans ((b6.mono (by omega)).trans ((b7.mono (by omega)).trans (b8.mono (by omega))))))
  have x8 : V.hc h8 ⟨bb, oo, none⟩ = some (.int .u8 (X : Nat)) := by
    rw [b18.hc (by show bb < h1.size; omega), b1.hc (by exact hbb)]; exact x0
  have yz8 := fin h8 [.int .i64 0, .int .i64 0, .int .i64 0, .int .i64 0, .int .i64 0] rfl rfl z8
  have yc8 := fin h8 [.int .i64 y0, .int .i64 y1, .int .i64 y2, .int .i64 y3, .int .i64 y4] rfl rfl z8
  have hz8 := lt_of_get z8
  refine VS.mono (N := fun F' g' => g' = h8 ∧ F' 0 = .slice (some ⟨bb, oo, none⟩) rc.length c ∧ F' 1 = .int .i64 now ∧ F' 4 = .pointer (some ⟨h.size, 0, none⟩) ∧ F' 11 = .pointer (some ⟨A, 0, none⟩) ∧ F' 12 = .pointer (some ⟨h7.size, 0, none⟩) ∧ F' 79 = .bool (decide (y0 ≠ 0 ∧ y1 ≠ (X : Nat)))) ?_ ?_ (fun _ _ _ h => h) (fun _ _ h => h)
  · refine VS.q mixed (by kernel_rfl) ?_
    by_cases w0 : y0 = 0
    · have hd : decide (y0 ≠ 0 ∧ y1 ≠ (X : Nat)) = false := decide_eq_false (fun hn => hn.1 w0)
      rw [hd]
      simp (config := {maxSteps := 2000000, implicitDefEqProofs := false}) only [go_sem, ↓reduceIte, Nat.reduceEqDiff, Nat.reduceAdd, Nat.reduceMul, Nat.reduceLeDiff, Nat.reduceLT, Nat.reduceSub, IntWalk.iteOmega, IntWalk.toNatUp, reduceCtorEq, Int.reduceLE, Int.reduceLT, Int.reduceToNat, Int.reduceNeg, k80, w0]
    · by_cases w1 : y1 = (X : Nat)
      · have hd : decide (y0 ≠ 0 ∧ y1 ≠ (X : Nat)) = false := decide_eq_false (fun hn => hn.2 w1)
        rw [hd]
        simp (config := {maxSteps := 2000000, implicitDefEqProofs := false}) only [go_sem, ↓reduceIte, Nat.reduceEqDiff, Nat.reduceAdd, Nat.reduceMul, Nat.reduceLeDiff, Nat.reduceLT, Nat.reduceSub, IntWalk.iteOmega, IntWalk.toNatUp, reduceCtorEq, Int.reduceLE, Int.reduceLT, Int.reduceToNat, Int.reduceNeg, k80, k81, x8, n0, w0, w1]
      · have hd : decide (y0 ≠ 0 ∧ y1 ≠ (X : Nat)) = true := decide_eq_true ⟨w0, w1⟩
        rw [hd]
        simp (config := {maxSteps := 2000000, implicitDefEqProofs := false}) only [go_sem, ↓reduceIte, Nat.reduceEqDiff, Nat.reduceAdd, Nat.reduceMul, Nat.reduceLeDiff, Nat.reduceLT, Nat.reduceSub, IntWalk.iteOmega, IntWalk.toNatUp, reduceCtorEq, Int.reduceLE, Int.reduceLT, Int.reduceToNat, Int.reduceNeg, k80, k81, x8, n0, w0, w1]
  rintro F' g8 ⟨hg8, g0, g1, g4, gt, gc, gb⟩
  rw [hg8]
  clear hg8
  by_cases wr' : y0 ≠ 0 ∧ y1 ≠ (X : Nat)
  case pos =>
    have ee : opnErr rc now = 11 := by rw [E4, e4, if_pos wr']
    rw [decide_eq_true wr'] at gb
    rw [opnC_zero (by rw [ee]; decide), ee]
    simp (config := {maxSteps := 2000000, implicitDefEqProofs := false}) only [go_sem, ↓reduceIte, Nat.reduceEqDiff, Nat.reduceAdd, Nat.reduceMul, Nat.reduceLeDiff, Nat.reduceLT, Nat.reduceSub, IntWalk.iteOmega, IntWalk.toNatUp, reduceCtorEq, Int.reduceLE, Int.reduceLT, Int.reduceToNat, Int.reduceNeg, g4, gb, yz8, hz8]
    try exact B8.addSet (Nat.le_refl _) _
  have E5 : opnErr rc now = opnA PL now := by rw [E4, e4, if_neg wr']
  rw [decide_eq_false wr'] at gb
  have hal : CallsH Tryd.prog T 22 #[.agg #[.int .i64 ((PL.take 22).getD 0 0 : Nat), .int .i64 ((PL.take 22).getD 1 0 : Nat), .int .i64 (be4 (PL.take 22) 2 : Nat)], .agg #[.int .i64 y0, .int .i64 y1, .int .i64 y2, .int .i64 y3, .int .i64 y4], .int .i64 now] h8 fun v' h' => v' = .int .i64 (opnA PL now) ∧ Bel h8.size h8 h' := by
    rw [eA]
    exact allowed_ok T h8 _ _ _ y0 y1 y2 y3 y4 now
  simp (config := {maxSteps := 2000000, implicitDefEqProofs := false}) only [go_sem, ↓reduceIte, Nat.reduceEqDiff, Nat.reduceAdd, Nat.reduceMul, Nat.reduceLeDiff, Nat.reduceLT, Nat.reduceSub, IntWalk.iteOmega, IntWalk.toNatUp, reduceCtorEq, Int.reduceLE, Int.reduceLT, Int.reduceToNat, Int.reduceNeg, g0, g1, g4, gt, gc, gb, rT8, rC8]
  refine hal.use ?_
  rintro _ h9 ⟨rfl, b9⟩
  have s9 := b9.size
  have z9 := b9.get (by omega) z8
  have c9 := b9.get (by omega) c8
  have rC9 : rd h9 ⟨h7.size, 0, none⟩ 5 = _ := rd_last c9 rfl
  have B9 := B8.trans (b9.mono B8.size)
  have yz9 := fin h9 [.int .i64 0, .int .i64 0, .int .i64 0, .int .i64 0, .int .i64 0] rfl rfl z9
  have yc9 := fin h9 [.int .i64 y0, .int .i64 y1, .int .i64 y2, .int .i64 y3, .int .i64 y4] rfl rfl z9
  have hz9 := lt_of_get z9
  generalize opnA PL now = OA at *
  by_cases oa : OA = 0
  · have ee : opnErr rc now = 0 := by rw [E5, oa]
    rw [eC ee, ee]
    simp (config := {maxSteps := 2000000, implicitDefEqProofs := false}) only [go_sem, ↓reduceIte, Nat.reduceEqDiff, Nat.reduceAdd, Nat.reduceMul, Nat.reduceLeDiff, Nat.reduceLT, Nat.reduceSub, IntWalk.iteOmega, IntWalk.toNatUp, reduceCtorEq, Int.reduceLE, Int.reduceLT, Int.reduceToNat, Int.reduceNeg, g4, gc, oa, rC9, yc9, hz9]
    try exact B9.addSet (Nat.le_refl _) _
  · rw [opnC_zero (by rw [E5]; exact oa), E5]
    simp (config := {maxSteps := 2000000, implicitDefEqProofs := false}) only [go_sem, ↓reduceIte, Nat.reduceEqDiff, Nat.reduceAdd, Nat.reduceMul, Nat.reduceLeDiff, Nat.reduceLT, Nat.reduceSub, IntWalk.iteOmega, IntWalk.toNatUp, reduceCtorEq, Int.reduceLE, Int.reduceLT, Int.reduceToNat, Int.reduceNeg, g4, gc, oa, yz9, hz9]
    try exact B9.addSet (Nat.le_refl _) _
end Go.Proofs.YtnpacofabdgcdaaDoor
