/- MootOpens: the law's walk; the tables as the program lays them. -/
import Derived.Test.YtnpacofabdgcdaaDoorOpn
import Derived.Test.YtnpacofabdgcdaaDoorTab
import Derived.Test.YtnpacofabdgcdaaDoorTabs
import Derived.LaidSub
import Derived.Test.YtnpacofabdgcdaaDoorW21
import Derived.Test.YtnpacofabdgcdaaDoorCards
import Derived.Test.YtnpacofabdgcdaaDoorTie
namespace Go.Proofs.YtnpacofabdgcdaaDoor
open Go Go.V
set_option linter.unusedSimpArgs false
set_option linter.unusedVariables false
set_option maxRecDepth 100000
/-- Both tables. -/
def TkN (h : Hp) : Prop := Tk h ∧ Tab 0 niv needN h
theorem bothTab {W : World} (h : laidMetH Tryd.prog [("conclave/sha.numbers", Rows.laid_conclave_sha_numbers), ("conclave/order.need", Rows.laid_conclave_order_need)] W) : TkN W.heap := by
  constructor
  · have h1 := h.filter (fun x => x.1 == "conclave/sha.numbers")
    exact shaTab h1
  · have h1 := h.filter (fun x => x.1 == "conclave/order.need")
    exact needTab h1
theorem doorBoth (os : Os) (args : Array Value) : laidMetH Tryd.prog [("conclave/sha.numbers", Rows.laid_conclave_sha_numbers), ("conclave/order.need", Rows.laid_conclave_order_need)] ((World.doorLaid Tryd.prog 87 os).forCall (fun _ _ => 0) ⟨#[], args, []⟩).memory :=
  laidMetH_of_parts3 (fuel := 8) (laidMet_of_run' 8 (by kernel_rfl) (by kernel_rfl)) (by kernel_rfl) (by kernel_rfl)
theorem opnC_fit (rc : List Nat) (now : Int) : fitK [some .i64, some .i64, some .i64, some .i64, some .i64] (opnC rc now) = true := by
  unfold opnC
  split <;> rfl
theorem mootOpens_ok : LawOkL Tryd.prog TkN 19 Tryd.f19.params.toList := by
  intro T args tkn hfit
  obtain ⟨tk, tn⟩ := tkn
  rw [show Tryd.f19.params.toList = [29, 3] from rfl] at hfit
  obtain ⟨v, _, rfl, ⟨k1, h1⟩, hfit⟩ := fitAll_cons hfit
  obtain ⟨vn, _, rfl, ⟨k2, h2⟩, hfit⟩ := fitAll_cons hfit
  obtain rfl := fitAll_nil hfit
  have hv := fitV_one (by kernel_rfl) h1
  obtain ⟨rc, s, hl⟩ := fit_bytes Tryd.underlying29 Tryd.underlying5 (by kernel_rfl) (by kernel_rfl) hv
  have hcap := fit_cap Tryd.underlying29 hv
  obtain ⟨now, hn, _⟩ := fit_int Tryd.underlying3 (fitV_one (by kernel_rfl) h2)
  simp only [List.cons.injEq, and_true] at hn
  subst hn
  clear h1 h2 hv
  generalize T.heap = h at *
  refine CallsH.of_code' (args := [_, _]) Tryd.func19 rfl rfl rfl rfl ?_
  simp (config := {maxSteps := 2000000, implicitDefEqProofs := false}) only [go_sem, ↓reduceIte, Nat.reduceEqDiff, Nat.reduceAdd, Nat.reduceMul, Nat.reduceLeDiff, Nat.reduceLT, Nat.reduceSub, IntWalk.iteOmega, IntWalk.toNatUp, reduceCtorEq, Int.reduceLE, Int.reduceLT, Int.reduceToNat, Int.reduceNeg]
  refine (octets_ok T h _ rc s hl).use ?_
  rintro w1 h1 ⟨o1, b1⟩
  simp (config := {maxSteps := 2000000, implicitDefEqProofs := false}) only [go_sem, ↓reduceIte, Nat.reduceEqDiff, Nat.reduceAdd, Nat.reduceMul, Nat.reduceLeDiff, Nat.reduceLT, Nat.reduceSub, IntWalk.iteOmega, IntWalk.toNatUp, reduceCtorEq, Int.reduceLE, Int.reduceLT, Int.reduceToNat, Int.reduceNeg]
  refine (open2_ok T h1 w1 rc now o1.bs o1.cap hl (tk.bels b1) (tn.bels b1)).use ?_
  rintro _ h2 ⟨rfl, b2⟩
  have B2 := b1.trans (b2.mono b1.size)
  have s1 := b1.size
  have s2 := b2.size
  have hCf := opnC_fit rc now
  have hCl : (opnC rc now).length = 5 := fitK_length hCf
  have hCo := fitK_one hCf
  have hCp : lput [Value.int .i64 0, .int .i64 0, .int .i64 0, .int .i64 0, .int .i64 0] 0 (opnC rc now) = opnC rc now := lput_full (by rw [hCl]; rfl)
  have hCle : (opnC rc now).length ≤ 5 := by omega
  have hself := leq_self hCf
  generalize hC : opnC rc now = C at *
  generalize hE : opnErr rc now = E at *
  simp (config := {maxSteps := 2000000, implicitDefEqProofs := false}) only [go_sem, ↓reduceIte, Nat.reduceEqDiff, Nat.reduceAdd, Nat.reduceMul, Nat.reduceLeDiff, Nat.reduceLT, Nat.reduceSub, IntWalk.iteOmega, IntWalk.toNatUp, reduceCtorEq, Int.reduceLE, Int.reduceLT, Int.reduceToNat, Int.reduceNeg, hCl, hCo, hCp, hCle]
  obtain ⟨h3, hh3⟩ : ∃ h3 : Hp, h3 = h2.push (.cells C.toArray 25) := ⟨_, rfl⟩
  have b3 : Bel h2.size h2 h3 := by rw [hh3]; exact Bel.push (Nat.le_refl _) _
  have s3 : h3.size = h2.size + 1 := by rw [hh3]; simp
  have x3 : h3[h2.size]? = some (.cells C.toArray 25) := by rw [hh3]; exact get_push_last
  rw [← hh3]
  clear hh3
  have B3 := B2.trans (b3.mono B2.size)
  refine (unpacked_ok T h3 v rc now (s.bel B3) hcap hl).use ?_
  rintro _ h4 ⟨rfl, b4⟩
  rw [hC, hE]
  have s4 := b4.size
  have x4 := b4.get (by omega) x3
  have r4 : rd h4 ⟨h2.size, 0, none⟩ 5 = some C := rd_last x4 hCl
  have hne : ¬ h2.size = h4.size := by omega
  have htk : C.take 5 = C := List.take_of_length_le (by omega)
  have hle : (5 : Nat) ≤ C.length := by omega
  simp (config := {maxSteps := 2000000, implicitDefEqProofs := false}) only [go_sem, ↓reduceIte, Nat.reduceEqDiff, Nat.reduceAdd, Nat.reduceMul, Nat.reduceLeDiff, Nat.reduceLT, Nat.reduceSub, IntWalk.iteOmega, IntWalk.toNatUp, reduceCtorEq, Int.reduceLE, Int.reduceLT, Int.reduceToNat, Int.reduceNeg, hCl, hCo, hCp, hCle, r4, hne, hCf, hself, htk, hle, List.drop_zero]
  exact (B3.trans (b4.mono B3.size)).addP (Nat.le_trans B3.size s4) _
end Go.Proofs.YtnpacofabdgcdaaDoor
namespace Go.Proofs.YtnpacofabdgcdaaDoor
open Go Go.V
set_option linter.unusedSimpArgs false
set_option linter.unusedVariables false
set_option maxRecDepth 100000
set_option maxRecDepth 100000 in
theorem mootOpens_lifted (os : Os) (started : os.Started) (H : Type) (enc : TypeId × Value → H) :
    ReturnsInHanded {} Tryd.checked os 19 .any (fun w args => (Rows.mootOpensSpec.pre enc Tryd.prog Tryd.f19 [] false w args ∧ laidMetH Tryd.prog Rows.mootOpensRow.laid w) ∧ sizedMet enc Tryd.prog Tryd.f19 (OpenSpec.ofChange Rows.mootOpensSpec) false w args)
      (Rows.mootOpensSpec.post enc Tryd.prog Tryd.f19 false true false false) :=
  law_liftedL (C := Tryd.checked) (laid := Rows.mootOpensRow.laid) ownKnobT started (by kernel_rfl) Tryd.func19
    (ChangeSpec.witness_shaped (enc := enc) (C := Tryd.checked) (os := os) (X := fun w _ => laidMetH Tryd.prog Rows.mootOpensRow.laid w) false (World.doorLaid Tryd.prog 87 os) #[.slice none 0 0, .int .i64 0] 12 rfl (doorShaped os _) (by kernel_rfl) (by kernel_rfl) (by kernel_rfl) (doorBoth os _))
    laidOutT (by kernel_rfl) (by kernel_rfl) (tb := 4) rfl Tryd.underlying4 rfl (fun ds hd => by
      have hl : ds.length = 2 := hd
      match ds, hl with
      | [d0, d1], _ => rfl) (fun W h => bothTab h) mootOpens_ok
theorem mootOpens_said : Rows.MootOpensSaid :=
  OpenClaim.holds_of_wide 19 Tryd.f19 rfl rfl rfl rfl rfl rfl rfl ⟨rfl, rfl, rfl, rfl, rfl⟩ rfl rfl rfl rfl rfl (by kernel_rfl) Tryd.func19 (show joinedFacts Tryd.prog 19 Tryd.f19 Rows.mootOpensSpec Rows.mootOpensRow = true by unfold joinedFacts; rw [makeT, enterT, liftsT]; kernel_rfl)
    (of_decide_eq_true (by kernel_rfl)) (by unfold Func.isWrapper; rw [if_neg (of_decide_eq_false (by kernel_rfl))]; exact ⟨rfl, rfl⟩)
    (fun os started H enc _ => mootOpens_lifted os started H enc)
theorem mootOpens_plain (f : FuncId) (fn : Func) (hf : Tryd.pinned.checked.prog.funcNamed "conclave/conclavelaw.MootOpens" = some f) (hfn : Tryd.pinned.checked.prog.funcs[f]? = some fn) :
    true = Tryd.pinned.checked.prog.looks [] ∧ ∀ (j : Nat) t, fn.params[j]? = some t → Tryd.pinned.checked.prog.wantsStandIn t = false := by
  obtain rfl : f = 19 := Option.some.inj ((show Tryd.prog.funcNamed "conclave/conclavelaw.MootOpens" = some 19 by kernel_rfl).symm.trans hf) |>.symm
  obtain rfl : fn = Tryd.f19 := (Option.some.inj (Tryd.func19.symm.trans hfn)).symm
  refine ⟨by kernel_rfl, fun j t ht => ?_⟩
  have hm : t ∈ Tryd.f19.params.toList := by simpa using Array.mem_of_getElem? ht
  have hall : (Tryd.f19.params.toList.all fun u => !Tryd.prog.wantsStandIn u) = true := by kernel_rfl
  exact (show Tryd.prog.wantsStandIn t = false by simpa using List.all_eq_true.1 hall t hm)
theorem mootOpens_card : Rows.MootOpensCardSaid :=
  Claim7.holds_tied_plain_at .later [] _ _ _ _ mootOpens_said (fun _ h => by cases h) (by kernel_rfl) (fun _ h => by cases h) mootOpens_row_tie rfl ⟨rfl, rfl⟩ (main_words (L := headCodes.map Char.ofNat) (by kernel_rfl) (by kernel_rfl)) rfl mootOpens_plain (by kernel_rfl)
end Go.Proofs.YtnpacofabdgcdaaDoor
