/- What is chosen: the plain law of tallies; no condition but those in the statements. -/
import Derived.Test.YtiakfdpmapmifaaAcv
import Derived.Test.YtiakfdpmapmifaaW22
namespace Go.Proofs.Ytiakfdpmapmifaa
open Go Go.V
set_option linter.unusedSimpArgs false
set_option linter.unusedVariables false
set_option maxRecDepth 100000
deriving instance DecidableEq for Bal
deriving instance DecidableEq for Vt
def vtN : Vt := ⟨0, ⟨0, 0⟩, 0, 0, 0, 0, 0⟩
def cmdW (v : Vt) : List Value := [.int .i64 v.k, .int .i64 v.c, .int .i64 v.s, .int .i64 v.nm, .int .i64 v.v]
theorem voteC_leq (x y : Vt) : leq (voteC x) (voteC y) = decide (x = y) := by
  obtain ⟨a0, ⟨a1, a2⟩, a3, a4, a5, a6, a7⟩ := x
  obtain ⟨b0, ⟨b1, b2⟩, b3, b4, b5, b6, b7⟩ := y
  rw [Bool.eq_iff_iff]
  simp [voteC, leq, ceq, Vt.mk.injEq, Bal.mk.injEq, and_assoc]
/-- How often a vote stands in a list. -/
def cnt (v : Vt) : List Vt → Nat
  | [] => 0
  | x :: l => (if x = v then 1 else 0) + cnt v l
theorem cnt_app (v : Vt) : ∀ a b : List Vt, cnt v (a ++ b) = cnt v a + cnt v b := by
  intro a b
  induction a with
  | nil => simp [cnt]
  | cons x a ih => simp only [List.cons_append, cnt, ih]; omega
theorem cnt_le (v : Vt) : ∀ l : List Vt, cnt v l ≤ l.length := by
  intro l
  induction l with
  | nil => exact Nat.le_refl _
  | cons x l ih => simp only [cnt, List.length_cons]; split <;> omega
theorem cnt_two {v w : Vt} (h : v ≠ w) : ∀ l : List Vt, cnt v l + cnt w l ≤ l.length := by
  intro l
  induction l with
  | nil => exact Nat.le_refl _
  | cons x l ih =>
    simp only [cnt, List.length_cons]
    by_cases q : x = v
    · rw [if_pos q, if_neg (fun e => h (q ▸ e))]; omega
    · rw [if_neg q]; split <;> omega
theorem cnt_zero {v : Vt} : ∀ {l : List Vt}, v ∉ l → cnt v l = 0 := by
  intro l
  induction l with
  | nil => intro _; rfl
  | cons x l ih =>
    intro h
    simp only [List.mem_cons, not_or] at h
    have hx : ¬ x = v := fun e => h.1 e.symm
    simp only [cnt, if_neg hx, ih h.2]
theorem cnt_snoc (v x : Vt) (l : List Vt) : cnt v (l ++ [x]) = cnt v l + if x = v then 1 else 0 := by
  rw [cnt_app]; rfl
theorem cnt_take (v : Vt) {l : List Vt} {k : Nat} (hk : k < l.length) : cnt v (l.take (k + 1)) = cnt v (l.take k) + if l[k] = v then 1 else 0 := by
  rw [take_snoc l k hk, cnt_snoc]
/-- A tally: each key once, with its number. -/
structure Tal (l : List (Vt × Int)) (all : List Vt) : Prop where
  num : ∀ i (hi : i < l.length), l[i].2 = (cnt l[i].1 all : Nat) ∧ l[i].1 ∈ all
  has : ∀ a ∈ all, ∃ i, ∃ hi : i < l.length, l[i].1 = a
  one : ∀ i j (hi : i < l.length) (hj : j < l.length), l[i].1 = l[j].1 → i = j
theorem Tal.nil : Tal [] [] := ⟨fun i hi => by simp at hi, fun a ha => by simp at ha, fun i j hi => by simp at hi⟩
def bump (v : Vt) (l : List (Vt × Int)) : List (Vt × Int) := putM (insM v l) (posM v l) (lookM v l + 1)
theorem Tal.look {l : List (Vt × Int)} {all : List Vt} (t : Tal l all) (v : Vt) : lookM v l = (cnt v all : Nat) := by
  unfold lookM
  cases hp : findP v l 0 with
  | none =>
    have hno := findP_none hp
    have : v ∉ all := fun hv => by
      obtain ⟨i, hi, he⟩ := t.has v hv
      exact hno _ (List.getElem_mem hi) he
    rw [cnt_zero this]; rfl
  | some p =>
    obtain ⟨i, n⟩ := p
    obtain ⟨m, hm, h1, h2, h3⟩ := findP_some hp
    simp only
    rw [h3, (t.num m hm).1, h2]
theorem look_ins (v : Vt) (l : List (Vt × Int)) : lookM v (insM v l) = lookM v l ∧ posM v l < (insM v l).length := by
  unfold lookM insM posM
  cases hp : findP v l 0 with
  | some p =>
    obtain ⟨m, hm, h1, h2, h3⟩ := findP_some (i := p.1) (v := p.2) hp
    simp only [hp]
    exact ⟨trivial, by omega⟩
  | none =>
    have : ∀ (l : List (Vt × Int)) (j : Nat), findP v l j = none → findP v (l ++ [(v, 0)]) j = some (l.length + j, 0) := by
      intro l
      induction l with
      | nil => intro j _; simp [findP]
      | cons x l ih =>
        intro j hj
        unfold findP at hj
        rw [List.cons_append]
        unfold findP
        by_cases q : v = x.1
        · rw [if_pos q] at hj; cases hj
        · rw [if_neg q] at hj ⊢
          rw [ih _ hj, List.length_cons]
          congr 2; omega
    simp only [this l 0 hp]
    exact ⟨trivial, by simp⟩
theorem Tal.bump {l : List (Vt × Int)} {all : List Vt} (t : Tal l all) (v : Vt) : Tal (bump v l) (all ++ [v]) ∧ (Go.Proofs.Ytiakfdpmapmifaa.bump v l).length = (insM v l).length := by
  have hl := t.look v
  unfold Go.Proofs.Ytiakfdpmapmifaa.bump
  rw [hl]
  refine ⟨?_, by unfold putM; rw [List.length_modify]⟩
  cases hp : findP v l 0 with
  | some p =>
    obtain ⟨i0, n⟩ := p
    obtain ⟨m, hm, h1, h2, h3⟩ := findP_some hp
    have e1 : insM v l = l := by unfold insM; rw [hp]
    have e2 : posM v l = m := by unfold posM; rw [hp]; show i0 = m; omega
    rw [e1, e2]
    unfold putM
    have gk : ∀ i (hi : i < (l.modify m fun x => (x.1, ((cnt v all : Nat) : Int) + 1)).length) (hi' : i < l.length), (l.modify m fun x => (x.1, ((cnt v all : Nat) : Int) + 1))[i].1 = l[i].1 := by
      intro i hi hi'
      rw [List.getElem_modify]; split <;> rfl
    have hlen : (l.modify m fun x => (x.1, ((cnt v all : Nat) : Int) + 1)).length = l.length := List.length_modify ..
    refine ⟨fun i hi => ?_, fun a ha => ?_, fun i j hi hj he => ?_⟩
    · have hi' : i < l.length := by rw [hlen] at hi; exact hi
      rw [gk i hi hi']
      obtain ⟨n1, n2⟩ := t.num i hi'
      refine ⟨?_, List.mem_append_left _ n2⟩
      rw [List.getElem_modify, cnt_snoc]
      by_cases q : m = i
      · subst q
        rw [if_pos rfl, if_pos h2.symm, h2]
        simp
      · rw [if_neg q, if_neg (fun e => q (t.one m i hm hi' (h2.trans e))), n1]
        simp
    · rcases List.mem_append.1 ha with ha | ha
      · obtain ⟨i, hi, he⟩ := t.has a ha
        exact ⟨i, by rw [hlen]; exact hi, by rw [gk i _ hi]; exact he⟩
      · obtain rfl := List.mem_singleton.1 ha
        exact ⟨m, by rw [hlen]; exact hm, by rw [gk m _ hm]; exact h2⟩
    · have hi' : i < l.length := by rw [hlen] at hi; exact hi
      have hj' : j < l.length := by rw [hlen] at hj; exact hj
      rw [gk i hi hi', gk j hj hj'] at he
      exact t.one i j hi' hj' he
  | none =>
    have hno := findP_none hp
    have hv : v ∉ all := fun hv => by
      obtain ⟨i, hi, he⟩ := t.has v hv
      exact hno _ (List.getElem_mem hi) he
    have e1 : insM v l = l ++ [(v, 0)] := by unfold insM; rw [hp]
    have e2 : posM v l = l.length := by unfold posM; rw [hp]
    have e3 : putM (l ++ [(v, 0)]) l.length (((cnt v all : Nat) : Int) + 1) = l ++ [(v, 1)] := by
      unfold putM
      apply List.ext_getElem
      · rw [List.length_modify]; simp
      · intro i h1 h2
        rw [List.getElem_modify]
        by_cases q : l.length = i
        · subst q; rw [if_pos rfl]; simp [cnt_zero hv]
        · rw [if_neg q]
          have : i < l.length := by simp at h2; omega
          rw [List.getElem_append_left this, List.getElem_append_left this]
    rw [e1, e2, e3]
    have hk : ∀ i (hi : i < l.length), l[i].1 ≠ v := fun i hi => hno _ (List.getElem_mem hi)
    refine ⟨fun i hi => ?_, fun a ha => ?_, fun i j hi hj he => ?_⟩
    · by_cases q : i = l.length
      · subst q
        simp only [List.getElem_concat_length]
        refine ⟨?_, by simp⟩
        rw [cnt_snoc, cnt_zero hv, if_pos rfl]; rfl
      · have hi' : i < l.length := by simp at hi; omega
        rw [List.getElem_append_left hi']
        obtain ⟨n1, n2⟩ := t.num i hi'
        refine ⟨?_, List.mem_append_left _ n2⟩
        rw [n1, cnt_snoc, if_neg (fun e => hk i hi' e.symm)]; rfl
    · rcases List.mem_append.1 ha with ha | ha
      · obtain ⟨i, hi, he⟩ := t.has a ha
        exact ⟨i, by simp; omega, by rw [List.getElem_append_left hi]; exact he⟩
      · obtain rfl := List.mem_singleton.1 ha
        exact ⟨l.length, by simp, by simp⟩
    · by_cases q : i = l.length
      · by_cases q' : j = l.length
        · omega
        · have hj' : j < l.length := by simp at hj; omega
          subst q
          rw [List.getElem_append_left hj'] at he
          simp only [List.getElem_concat_length] at he
          exact absurd he.symm (hk j hj')
      · have hi' : i < l.length := by simp at hi; omega
        rw [List.getElem_append_left hi'] at he
        by_cases q' : j = l.length
        · subst q'
          simp only [List.getElem_concat_length] at he
          exact absurd he (hk i hi')
        · have hj' : j < l.length := by simp at hj; omega
          rw [List.getElem_append_left hj'] at he
          exact t.one i j hi' hj' he
/-- Of a slot. -/
def inSlot (slot : Int) (l : List Vt) : List Vt := l.filter fun v => decide (v.slot = slot)
abbrev Acr := Bal × List Vt
def okA (x : Acr) : Bool := decide (accErr x.1 x.2 = 0)
def allV (slot : Int) (LL : List Acr) : List Vt := LL.flatMap fun x => inSlot slot x.2
theorem inSlot_one (slot : Int) {l : List Vt} (hs : Srt l) : (inSlot slot l).length ≤ 1 := by
  unfold inSlot
  induction l with
  | nil => simp
  | cons x l ih =>
    have hs' : Srt l := fun i j hi hj hij => by
      have := hs (i + 1) (j + 1) (by simpa using hi) (by simpa using hj) (by omega)
      simpa using this
    rw [List.filter_cons]
    split
    next q =>
      have : l.filter (fun v => decide (v.slot = slot)) = [] := by
        rw [List.filter_eq_nil_iff]
        intro y hy
        obtain ⟨j, hj, rfl⟩ := List.getElem_of_mem hy
        have := hs 0 (j + 1) (by simp) (by simpa using hj) (by omega)
        simp only [List.getElem_cons_zero, List.getElem_cons_succ] at this
        simp only [decide_eq_true_eq] at q ⊢
        omega
      rw [this]; simp
    next => exact ih hs'
theorem allV_few (slot : Int) : ∀ {LL : List Acr}, LL.all okA = true → (allV slot LL).length ≤ LL.length := by
  intro LL
  induction LL with
  | nil => intro _; simp [allV]
  | cons x LL ih =>
    intro h
    simp only [List.all_cons, Bool.and_eq_true] at h
    have h1 := inSlot_one slot (accErr_srt (p := x.1) (l := x.2) (by simpa [okA] using h.1))
    have h2 := ih h.2
    unfold allV at h2 ⊢
    rw [List.flatMap_cons, List.length_append, List.length_cons]
    omega
def win (slot : Int) (LL : List Acr) : Option Vt := (allV slot LL).find? fun v => decide (LL.length < 2 * cnt v (allV slot LL))
def chE (slot : Int) (LL : List Acr) : Int := if slot < 0 ∨ 39 < slot ∨ LL.length < 1 ∨ 5 < LL.length then 2 else if LL.all okA = true then (if (win slot LL).isSome then 0 else 9) else 5
def chV (slot : Int) (LL : List Acr) : Vt := if chE slot LL = 0 then (win slot LL).getD vtN else vtN
def ChRes (v' : Value) (slot : Int) (LL : List Acr) : Prop := v' = .tuple [.agg (cmdW (chV slot LL)).toArray, .int .i64 (chE slot LL)].toArray
theorem win_some {slot : Int} {LL : List Acr} (hok : LL.all okA = true) {v : Vt} (hv : v ∈ allV slot LL) (hn : LL.length < 2 * cnt v (allV slot LL)) : win slot LL = some v := by
  unfold win
  have hfew := allV_few slot hok
  cases hf : (allV slot LL).find? (fun v => decide (LL.length < 2 * cnt v (allV slot LL))) with
  | none =>
    rw [List.find?_eq_none] at hf
    exact absurd hn (by simpa using hf v hv)
  | some w =>
    have hw := List.find?_some hf
    simp only [decide_eq_true_eq] at hw
    by_cases q : w = v
    · rw [q]
    · have := cnt_two q (allV slot LL)
      omega
theorem win_none {slot : Int} {LL : List Acr} (h : ∀ v ∈ allV slot LL, ¬ LL.length < 2 * cnt v (allV slot LL)) : win slot LL = none := by
  unfold win
  rw [List.find?_eq_none]
  intro v hv
  simpa using h v hv
end Go.Proofs.Ytiakfdpmapmifaa
