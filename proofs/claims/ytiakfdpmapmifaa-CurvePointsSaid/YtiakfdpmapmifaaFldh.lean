/- The ladder of curve.times: the plain part; no condition but those in the statements. -/
import Derived.Test.YtiakfdpmapmifaaFlad
import Derived.Test.YtiakfdpmapmifaaW21
namespace Go.Proofs.Ytiakfdpmapmifaa
open Go Go.V
set_option linter.unusedSimpArgs false
set_option linter.unusedVariables false
set_option maxRecDepth 100000
def zer16 : List Int := [0, 0, 0, 0, 0, 0, 0, 0, 0, 0, 0, 0, 0, 0, 0, 0]
def one16 : List Int := [1, 0, 0, 0, 0, 0, 0, 0, 0, 0, 0, 0, 0, 0, 0, 0]
theorem alloc_step {g0 g : Hp} (B : Bel g0.size g0 g) : ∃ k : Hp, g.push (.cells #[.int .i64 0, .int .i64 0, .int .i64 0, .int .i64 0, .int .i64 0, .int .i64 0, .int .i64 0, .int .i64 0, .int .i64 0, .int .i64 0, .int .i64 0, .int .i64 0, .int .i64 0, .int .i64 0, .int .i64 0, .int .i64 0] 65) = k ∧ Bel g.size g k ∧ k.size = g.size + 1 ∧ k[g.size]? = some (fldC zer16) ∧ Bel g0.size g0 k :=
  ⟨g.push (fldC zer16), rfl, Bel.push (Nat.le_refl _) _, by simp, get_push_last, B.trans ((Bel.push (Nat.le_refl _) _).mono B.size)⟩
theorem store_step {g0 g : Hp} {b : Nat} {l : List Int} (B : Bel g0.size g0 g) (x : g[b]? = some (fldC zer16)) (q : g0.size ≤ b) (hl : l.length = 16) : ∃ k : Hp, wr g ⟨b, 0, none⟩ (l.map sv) = some k ∧ k[b]? = some (fldC l) ∧ b < g.size ∧ Bel g0.size g0 k ∧ ∀ c o, c ≠ b → g[c]? = some o → k[c]? = some o :=
  ⟨g.setIfInBounds b (fldC l), wr_fld x rfl hl, get_set x, lt_of_get x, B.addSet q _, fun c o hc hx => by rw [get_set_ne (Ne.symm hc)]; exact hx⟩
def k16 : List Int := [56129, 1, 0, 0, 0, 0, 0, 0, 0, 0, 0, 0, 0, 0, 0, 0]
/-- The four numbers of the ladder. -/
structure FR where
  x2 : List Int
  z2 : List Int
  x3 : List Int
  z3 : List Int
def FR.turn (s : FR) (b : Bool) : FR := if b then ⟨s.x3, s.z3, s.x2, s.z2⟩ else s
def FR.core (u : List Int) (s : FR) : FR :=
  let xa := fplus s.x2 s.z2
  let xb := fminus s.x2 s.z2
  let xc := fplus s.x3 s.z3
  let xd := fminus s.x3 s.z3
  let aa := ftimes xa xa
  let bb := ftimes xb xb
  let da := ftimes xd xa
  let cb := ftimes xc xb
  let su := fplus da cb
  let ga := fminus da cb
  let e := fminus aa bb
  ⟨ftimes aa bb, ftimes e (fplus aa (ftimes e k16)), ftimes su su, ftimes (ftimes ga ga) u⟩
theorem FR.turn_x2 (s : FR) (b : Bool) : (s.turn b).x2 = if b then s.x3 else s.x2 := by cases b <;> rfl
theorem FR.turn_x3 (s : FR) (b : Bool) : (s.turn b).x3 = if b then s.x2 else s.x3 := by cases b <;> rfl
theorem FR.turn_z2 (s : FR) (b : Bool) : (s.turn b).z2 = if b then s.z3 else s.z2 := by cases b <;> rfl
theorem FR.turn_z3 (s : FR) (b : Bool) : (s.turn b).z3 = if b then s.z2 else s.z3 := by cases b <;> rfl
def Fok (l : List Int) : Prop := l.length = 16 ∧ InK 65574 l
def FR.ok (s : FR) : Prop := Fok s.x2 ∧ Fok s.z2 ∧ Fok s.x3 ∧ Fok s.z3
theorem FR.ok.turn {s : FR} (h : s.ok) (b : Bool) : (s.turn b).ok := by
  cases b
  · exact h
  · exact ⟨h.2.2.1, h.2.2.2, h.1, h.2.1⟩
def RegI (h0 : Hp) (ra rb rc rd : List Int) (F F' : Env) (g' : Hp) : Prop :=
  Bel h0.size h0 g' ∧ (∃ A B C D, F' 7 = .pointer (some ⟨A, 0, none⟩) ∧ F' 8 = .pointer (some ⟨B, 0, none⟩) ∧ F' 9 = .pointer (some ⟨C, 0, none⟩) ∧ F' 10 = .pointer (some ⟨D, 0, none⟩) ∧ (h0.size ≤ A ∧ h0.size ≤ B ∧ h0.size ≤ C ∧ h0.size ≤ D) ∧ (A ≠ B ∧ A ≠ C ∧ A ≠ D ∧ B ≠ C ∧ B ≠ D ∧ C ≠ D) ∧ g'[A]? = some (fldC ra) ∧ g'[B]? = some (fldC rb) ∧ g'[C]? = some (fldC rc) ∧ g'[D]? = some (fldC rd)) ∧ ∀ t, t < 24 → t ≠ 7 → t ≠ 8 → t ≠ 9 → t ≠ 10 → F' t = F t
def RegN (h0 : Hp) (a b : Nat) (ra rb : List Int) (F F' : Env) (g' : Hp) : Prop :=
  Bel h0.size h0 g' ∧ (∃ A B, F' a = .pointer (some ⟨A, 0, none⟩) ∧ F' b = .pointer (some ⟨B, 0, none⟩) ∧ h0.size ≤ A ∧ h0.size ≤ B ∧ g'[A]? = some (fldC ra) ∧ g'[B]? = some (fldC rb)) ∧ ∀ t, t < 24 → t ≠ a → t ≠ b → F' t = F t
/-- The bits of the secret. -/
def kbit (l : List Nat) (i : Nat) : Bool := decide (l.getD (i / 8) 0 / 2 ^ (i % 8) % 2 = 1)
theorem kbit_u8 {l : List Nat} (w : ∀ x ∈ l, x < 256) (i : Nat) : bitOp .and .u8 (shrOp .u8 (l.getD (i / 8) 0 : Nat) ((i % 8 : Nat) : Int)) 1 = if kbit l i then 1 else 0 := by
  have e1 : shrOp .u8 (l.getD (i / 8) 0 : Nat) ((i % 8 : Nat) : Int) = ((l.getD (i / 8) 0 / 2 ^ (i % 8) : Nat) : Int) := by
    have hn : i % 8 < 8 := Nat.mod_lt _ (by omega)
    rw [shr_nat .u8 _ _ (by show i % 8 ≤ 8; omega), Nat.shiftRight_eq_div_pow]
  rw [e1]
  obtain ⟨y, hy⟩ : ∃ y, y = l.getD (i / 8) 0 / 2 ^ (i % 8) := ⟨_, rfl⟩
  have hx := getD_byte w (i / 8)
  have hy2 : y < 256 := by rw [hy]; exact Nat.lt_of_le_of_lt (Nat.div_le_self _ _) hx
  have h := and_u8 y 1 hy2 (by decide)
  rw [Nat.and_one_is_mod] at h
  unfold kbit
  rw [← hy]
  rw [show ((1 : Nat) : Int) = 1 from rfl] at h
  rw [h]
  rcases Nat.mod_two_eq_zero_or_one y with q | q
  · rw [q]; rfl
  · rw [q]; rfl
theorem and248 (x : Nat) (hx : x < 256) : bitOp .and .u8 (x : Int) 248 = ((x / 8 * 8 : Nat) : Int) := by
  have h := and_u8 x 248 hx (by decide)
  have e : x &&& 248 = x / 8 * 8 := by
    have : ∀ y : Fin 256, y.val &&& 248 = y.val / 8 * 8 := by decide
    exact this ⟨x, hx⟩
  rw [e] at h; exact h
theorem and127 (x : Nat) (hx : x < 256) : bitOp .and .u8 (x : Int) 127 = ((x % 128 : Nat) : Int) := by
  have h := and_u8 x 127 hx (by decide)
  have e : x &&& 127 = x % 128 := Nat.and_two_pow_sub_one_eq_mod x 7
  rw [e] at h; exact h
theorem or64 (x : Nat) (hx : x < 256) : bitOp .or .u8 ((x % 128 : Nat) : Int) 64 = ((64 + x % 64 : Nat) : Int) := by
  have h := or_u8 (x % 128) 64 (by omega) (by decide)
  have e : x % 128 ||| 64 = 64 + x % 64 := by
    have : ∀ y : Fin 256, y.val % 128 ||| 64 = 64 + y.val % 64 := by decide
    exact this ⟨x, hx⟩
  rw [e] at h; exact h
/-- The secret, as it counts. -/
def clampK (l : List Nat) : List Nat := (l.set 0 (l.getD 0 0 / 8 * 8)).set 31 (64 + l.getD 31 0 % 64)
/-- The ladder after j bits, from the highest on. -/
def ladF (k : List Nat) (u : List Int) : Nat → FR
  | 0 => ⟨one16, zer16, u, one16⟩
  | j + 1 => (((ladF k u j).turn (kbit k (254 - j))).core u).turn (kbit k (254 - j))
/-- What the program makes of a secret and a point. -/
def curveF (k p : List Nat) : List Nat := fby (fon (fcN (ftimes (ladF (clampK k) (fread p) 255).x2 (fpow (ladF (clampK k) (fread p) 255).z2 254)) 16) 2) 16
theorem fok_times {x y : List Int} (hx : InK 524288 x) (hy : InK 524288 y) : Fok (ftimes x y) := ⟨ftimes_length _ _, (ftimes_in hx hy).mono (by omega)⟩
set_option maxHeartbeats 2000000 in
theorem FR.ok.core {u : List Int} {s : FR} (hu : Fok u) (h : s.ok) : (s.core u).ok := by
  obtain ⟨h1, h2, h3, h4⟩ := h
  have xa : InK 131148 (fplus s.x2 s.z2) := (fplus_in (by omega) (by omega) h1.2 h2.2).mono (by omega)
  have xb : InK 131148 (fminus s.x2 s.z2) := (fminus_in (by omega) (by omega) h1.2 h2.2).mono (by omega)
  have xc : InK 131148 (fplus s.x3 s.z3) := (fplus_in (by omega) (by omega) h3.2 h4.2).mono (by omega)
  have xd : InK 131148 (fminus s.x3 s.z3) := (fminus_in (by omega) (by omega) h3.2 h4.2).mono (by omega)
  have big : ∀ {l : List Int}, InK 131148 l → InK 524288 l := fun w => w.mono (by omega)
  have med : ∀ {l : List Int}, InK 65574 l → InK 524288 l := fun w => w.mono (by omega)
  have aa := fok_times (big xa) (big xa)
  have bb := fok_times (big xb) (big xb)
  have da := fok_times (big xd) (big xa)
  have cb := fok_times (big xc) (big xb)
  have su : InK 131148 (fplus _ _) := (fplus_in (by omega) (by omega) da.2 cb.2).mono (by omega)
  have ga : InK 131148 (fminus _ _) := (fminus_in (by omega) (by omega) da.2 cb.2).mono (by omega)
  have e : InK 131148 (fminus _ _) := (fminus_in (by omega) (by omega) aa.2 bb.2).mono (by omega)
  have k : InK 524288 k16 := by unfold k16; intro x hx; simp at hx; omega
  have ek := fok_times (big e) k
  have ap : InK 131148 (fplus _ _) := (fplus_in (by omega) (by omega) aa.2 ek.2).mono (by omega)
  unfold FR.core FR.ok
  dsimp only
  exact ⟨fok_times (med aa.2) (med bb.2), fok_times (big e) (big ap), fok_times (big su) (big su), fok_times (med (fok_times (big ga) (big ga)).2) (med hu.2)⟩
theorem ladF_ok (k : List Nat) {u : List Int} (hu : Fok u) : ∀ j, (ladF k u j).ok
  | 0 => ⟨⟨rfl, by unfold ladF one16; intro x hx; simp at hx; omega⟩, ⟨rfl, by unfold ladF zer16; intro x hx; simp at hx; omega⟩, hu, ⟨rfl, by unfold ladF one16; intro x hx; simp at hx; omega⟩⟩
  | j + 1 => (((ladF_ok k hu j).turn _).core hu).turn _
theorem two_set {g : Hp} {a c : Nat} {oa oc o1 o2 : Obj} (hne : a ≠ c) (ha : g[a]? = some oa) (hc : g[c]? = some oc) : ((g.setIfInBounds a o1).setIfInBounds c o2)[a]? = some o1 ∧ ((g.setIfInBounds a o1).setIfInBounds c o2)[c]? = some o2 ∧ ∀ x, x ≠ a → x ≠ c → ((g.setIfInBounds a o1).setIfInBounds c o2)[x]? = g[x]? := by
  have hc' : (g.setIfInBounds a o1)[c]? = some oc := by rw [get_set_ne hne]; exact hc
  refine ⟨?_, get_set hc', fun x h1 h2 => ?_⟩
  · rw [get_set_ne hne.symm]; exact get_set ha
  · rw [get_set_ne h2.symm, get_set_ne h1.symm]
theorem vs_gen {P : Program} {n : Nat} {T : World} {c : Code} {N : Env → Hp → Prop} {X : Nat → Env → Hp → Prop} {R : Env → Hp → Prop} {F : Env} {h : Hp} (H : ∀ E, E = F → VS P n T c N X R E h) : VS P n T c N X R F h := H F rfl
end Go.Proofs.Ytiakfdpmapmifaa
