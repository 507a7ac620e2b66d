/- V4: slices: what they read as, which ones a call owns; append, copy, make, conversions. -/
import Derived.Test.YtiakfdpmapmifaaV3
import Derived.Laws.Strings
namespace Go.V

/-- From a cell on, these. -/
def cellsAt (h : Hp) (b o : Nat) (cs : List Value) : Prop := ∀ i (hi : i < cs.length), hc h ⟨b, o + i, none⟩ = some cs[i]
/-- A slice of m elements, of n cells each, that reads as these cells. -/
def Sl (n : Nat) (h : Hp) (v : Value) (m : Nat) (cs : List Value) : Prop :=
  ∃ p cap, v = .slice p m cap ∧ cs.length = m * n ∧ (cs ≠ [] → ∃ b o, p = some ⟨b, o, none⟩ ∧ cellsAt h b o cs)
/-- A slice that begins a row of its own, in a block from B on. -/
def Own (B : Nat) (E : TypeId) (n : Nat) (h : Hp) (v : Value) (m : Nat) (cs : List Value) : Prop :=
  ((∃ p, v = .slice p 0 0) ∧ m = 0 ∧ cs = []) ∨
  ∃ b cap spare, B ≤ b ∧ v = .slice (some ⟨b, 0, none⟩) m cap ∧ h[b]? = some (.cells (cs ++ spare).toArray E (0, 0)) ∧ cs.length = m * n ∧ spare.length = (cap - m) * n ∧ m ≤ cap
/-- Below B nothing has turned, and no block has gone. -/
structure Bel (B : Nat) (h h' : Hp) : Prop where
  size : h.size ≤ h'.size
  block : ∀ b, b < B → h'[b]? = h[b]?
theorem Bel.refl (B : Nat) (h : Hp) : Bel B h h := ⟨Nat.le_refl _, fun _ _ => rfl⟩
theorem Bel.trans {B : Nat} {h h' h'' : Hp} (a : Bel B h h') (b : Bel B h' h'') : Bel B h h'' :=
  ⟨Nat.le_trans a.size b.size, fun k hk => (b.block k hk).trans (a.block k hk)⟩
theorem Bel.mono {B B' : Nat} {h h' : Hp} (a : Bel B h h') (hB : B' ≤ B) : Bel B' h h' := ⟨a.size, fun k hk => a.block k (Nat.lt_of_lt_of_le hk hB)⟩
theorem Bel.push {B : Nat} {h : Hp} (hB : B ≤ h.size) (o : Obj) : Bel B h (h.push o) :=
  ⟨by simp, fun k hk => by rw [Array.getElem?_push, if_neg (by omega)]⟩
theorem Bel.set {B : Nat} {h : Hp} {b : Nat} (hb : B ≤ b) (o : Obj) : Bel B h (h.setIfInBounds b o) :=
  ⟨by simp, fun k hk => by rw [Array.getElem?_setIfInBounds, if_neg (by omega)]⟩
theorem Bel.hc {B : Nat} {h h' : Hp} (a : Bel B h h') {p : Addr} (hp : p.block < B) : hc h' p = hc h p := by unfold V.hc; rw [a.block _ hp]
theorem lt_of_get {h : Hp} {b : Nat} {o : Obj} (hb : h[b]? = some o) : b < h.size := (Array.getElem?_eq_some_iff.1 hb).1
theorem lt_of_hc {h : Hp} {p : Addr} {v : Value} (hp : hc h p = some v) : p.block < h.size := by
  unfold hc at hp
  cases hb : h[p.block]? with
  | none => rw [hb] at hp; cases hp
  | some o => exact lt_of_get hb
theorem hc_of_get {h : Hp} {b : Nat} {c : Array Value} {e : TypeId} {fr : Nat × Nat} (hb : h[b]? = some (.cells c e fr)) (o : Nat) : hc h ⟨b, o, none⟩ = c[o]? := by
  unfold hc; simp only [hb]; rfl
theorem Bel.cellsAt {B : Nat} {h h' : Hp} (a : Bel B h h') {b o : Nat} {cs : List Value} (hb : b < B) (hcs : cellsAt h b o cs) : cellsAt h' b o cs :=
  fun i hi => by rw [a.hc (by exact hb)]; exact hcs i hi
/-- What a slice reads as stays, where all that was there stays. -/
theorem Sl.bel {n : Nat} {h h' : Hp} {v : Value} {m : Nat} {cs : List Value} (s : Sl n h v m cs) (a : Bel h.size h h') : Sl n h' v m cs := by
  obtain ⟨p, cap, hv, hl, hc⟩ := s
  refine ⟨p, cap, hv, hl, fun hne => ?_⟩
  obtain ⟨b, o, hp, hcs⟩ := hc hne
  refine ⟨b, o, hp, a.cellsAt ?_ hcs⟩
  have hpos : 0 < cs.length := List.length_pos_iff.2 hne
  exact lt_of_hc (hcs 0 hpos)
theorem Own.sl {B : Nat} {E : TypeId} {n : Nat} {h : Hp} {v : Value} {m : Nat} {cs : List Value} (s : Own B E n h v m cs) : Sl n h v m cs := by
  rcases s with ⟨⟨p, rfl⟩, rfl, rfl⟩ | ⟨b, cap, spare, hB, rfl, hb, hl, _, _⟩
  · exact ⟨p, 0, rfl, by simp, fun h => (h rfl).elim⟩
  · refine ⟨_, cap, rfl, hl, fun _ => ⟨b, 0, rfl, fun i hi => ?_⟩⟩
    rw [hc_of_get hb, Nat.zero_add]
    simp [List.getElem?_append_left hi]
theorem Own.nil (B : Nat) (E : TypeId) (n : Nat) (h : Hp) : Own B E n h (.slice none 0 0) 0 [] := .inl ⟨⟨none, rfl⟩, rfl, rfl⟩
theorem Own.nil' (B : Nat) (E : TypeId) (n : Nat) (h : Hp) (p : Option Addr) : Own B E n h (.slice p 0 0) 0 [] := .inl ⟨⟨p, rfl⟩, rfl, rfl⟩
/-- The block that a slice lies in. -/
def blkOf : Value → Option Nat
  | .slice (some a) _ cap => if cap = 0 then none else some a.block
  | _ => none
/-- All that was there is as it was, but for one block. -/
structure But (x : Option Nat) (h h' : Hp) : Prop where
  size : h.size ≤ h'.size
  block : ∀ b, b < h.size → x ≠ some b → h'[b]? = h[b]?
theorem But.bel {x : Option Nat} {h h' : Hp} (a : But x h h') {B : Nat} (hB : B ≤ h.size) (hx : ∀ b, x = some b → B ≤ b) : Bel B h h' :=
  ⟨a.size, fun k hk => a.block k (by omega) (fun e => by have := hx k e; omega)⟩
theorem Own.blk {B : Nat} {E : TypeId} {n : Nat} {h : Hp} {v : Value} {m : Nat} {cs : List Value} (s : Own B E n h v m cs) : ∀ b, blkOf v = some b → B ≤ b := by
  intro b hb
  rcases s with ⟨⟨p, rfl⟩, _, _⟩ | ⟨b', cap, spare, hB, rfl, _⟩
  · cases p <;> simp [blkOf] at hb
  · simp only [blkOf] at hb
    split at hb
    · cases hb
    · simp only [Option.some.injEq] at hb; omega
/-- What is owned stays owned where its block stays. -/
theorem Own.but {B : Nat} {E : TypeId} {n : Nat} {h h' : Hp} {v : Value} {m : Nat} {cs : List Value} (s : Own B E n h v m cs) {x : Option Nat} (a : But x h h') (hx : ∀ b, blkOf v = some b → x ≠ some b) : Own B E n h' v m cs := by
  rcases s with s | ⟨b, cap, spare, hB, rfl, hb, r⟩
  · exact .inl s
  · by_cases hc : cap = 0
    · subst hc
      obtain ⟨r1, r2, r3⟩ := r
      have hm : m = 0 := by omega
      subst hm
      exact .inl ⟨⟨_, rfl⟩, rfl, List.eq_nil_of_length_eq_zero (by simpa using r1)⟩
    · exact .inr ⟨b, cap, spare, hB, rfl, by rw [a.block b (lt_of_get hb) (hx b (by simp [blkOf, hc]))]; exact hb, r⟩
theorem But.push {h : Hp} (o : Obj) {x : Option Nat} : But x h (h.push o) := ⟨by simp, fun k hk _ => by rw [Array.getElem?_push, if_neg (by omega)]⟩
theorem But.refl {h : Hp} {x : Option Nat} : But x h h := ⟨Nat.le_refl _, fun _ _ _ => rfl⟩
theorem But.trans {x : Option Nat} {h h' h'' : Hp} (a : But x h h') (b : But x h' h'') : But x h h'' :=
  ⟨Nat.le_trans a.size b.size, fun k hk hx => (b.block k (Nat.lt_of_lt_of_le hk a.size) hx).trans (a.block k hk hx)⟩
theorem Own.push {B : Nat} {E : TypeId} {n : Nat} {h : Hp} {v : Value} {m : Nat} {cs : List Value} (s : Own B E n h v m cs) (o : Obj) : Own B E n (h.push o) v m cs :=
  s.but (x := none) (But.push o) (fun _ _ => by simp)
theorem Own.bel {B C : Nat} {E : TypeId} {n : Nat} {h h' : Hp} {v : Value} {m : Nat} {cs : List Value} (s : Own B E n h v m cs) (a : Bel C h h') (hC : h.size ≤ C) : Own B E n h' v m cs :=
  s.but (x := none) ⟨a.size, fun b hb _ => a.block b (by omega)⟩ (fun _ _ => by simp)
theorem Own.mono {B B' : Nat} {E : TypeId} {n : Nat} {h : Hp} {v : Value} {m : Nat} {cs : List Value} (s : Own B E n h v m cs) (hB : B' ≤ B) : Own B' E n h v m cs := by
  rcases s with s | ⟨b, cap, spare, hb, r⟩
  · exact .inl s
  · exact .inr ⟨b, cap, spare, by omega, r⟩

section
variable {P : Program} {T : World} {K : Value → Hp → Prop} {F : Env} {h : Hp} {ty : TypeId}

theorem run_firstCells {n m : Nat} {v : Value} {cs : List Value} (s : Sl n h v m cs) {Q : Array Value → Hp → Prop} (H : Q cs.toArray h) : hw P (Builtin.firstCells n m v) Q h := by
  obtain ⟨p, cap, rfl, hl, hc⟩ := s
  cases p with
  | none =>
    have : cs = [] := by
      cases cs with
      | nil => rfl
      | cons x l => obtain ⟨b, o, hp, _⟩ := hc (by simp); cases hp
    subst this
    exact H
  | some a =>
    show hw P (loadCells a (m * n)) Q h
    rw [← hl]
    refine run_loadCells a cs _ 0 #[] (fun j hj => ?_) rfl (by simpa using H)
    obtain ⟨b, o, hp, hcs⟩ := hc (by intro e; subst e; simp at hj)
    simp only [Option.some.injEq] at hp
    subst hp
    rw [addr_add, Nat.zero_add, hcs j hj]
    simp [hj]
theorem Sl.lenOf {n m : Nat} {v : Value} {cs : List Value} (s : Sl n h v m cs) {Q : Nat → Hp → Prop} : hw P (Builtin.lenOf v) Q h = Q m h := by
  obtain ⟨p, cap, rfl, _, _⟩ := s; rfl

theorem lput_app (l r vs : List Value) : lput (l ++ r) l.length vs = l ++ lput r 0 vs := by
  induction l with
  | nil => simp
  | cons x l ih =>
    cases vs with
    | nil => simp [lput]
    | cons v vs => simp only [List.cons_append, List.length_cons, lput]; rw [ih]
theorem lput_zero (r vs : List Value) (h : vs.length ≤ r.length) : lput r 0 vs = vs ++ r.drop vs.length := by
  induction vs generalizing r with
  | nil => simp [lput]
  | cons v vs ih =>
    cases r with
    | nil => simp at h
    | cons x r => simp only [lput, List.cons_append, List.length_cons, List.drop_succ_cons]; rw [ih r (by simpa using h)]

theorem zeroCells_size (z : Array Value) (n : Nat) : (Builtin.zeroCells z n).size = n * z.size := by simp [Builtin.zeroCells]

theorem nextcap_le (need cap bytes : Nat) (hlt : cap < need) (hb : need * bytes ≤ 140737488355328) : Builtin.nextslicecap need cap * bytes ≤ 281474976710656 := by
  have g1 : ∀ (r c : Nat), need ≤ c → Builtin.growBy need r c = c := by
    intro r c hc
    cases r with
    | zero => rfl
    | succ r => simp [Builtin.growBy, hc]
  have g2 : ∀ (r c : Nat), c < need → Builtin.growBy need r c ≤ need + (need + 768) / 4 := by
    intro r
    induction r with
    | zero => intro c hc; simp only [Builtin.growBy]; omega
    | succ r ih =>
      intro c hc
      simp only [Builtin.growBy]
      rw [if_neg (by omega)]
      by_cases h2 : c + (c + 768) / 4 < need
      · exact ih _ h2
      · rw [g1 r _ (by omega)]; omega
  have key : Builtin.nextslicecap need cap ≤ 2 * need + 192 := by
    unfold Builtin.nextslicecap
    split
    · omega
    · split
      · omega
      · have := g2 4 cap hlt; omega
  have e1 : Builtin.nextslicecap need cap * bytes ≤ (2 * need + 192) * bytes := Nat.mul_le_mul_right _ key
  unfold Builtin.nextslicecap
  split
  · omega
  · rename_i h1
    split
    · have : 2 * cap * bytes ≤ 2 * need * bytes := Nat.mul_le_mul_right _ (by omega)
      have e : 2 * need * bytes = 2 * (need * bytes) := by rw [Nat.mul_assoc]
      omega
    · rename_i h2
      have hg := g2 4 cap hlt
      have h3 : Builtin.growBy need 4 cap * bytes ≤ (need + (need + 768) / 4) * bytes := Nat.mul_le_mul_right _ hg
      have h4 : (need + (need + 768) / 4) * bytes ≤ (2 * need) * bytes := Nat.mul_le_mul_right _ (by omega)
      have e : 2 * need * bytes = 2 * (need * bytes) := by rw [Nat.mul_assoc]
      omega

/-- 'append(v, s...)', v the call's own. -/
theorem append_own {sT xT E E' B n m k bytes : Nat} {v s : Value} {cs news zs : List Value} {cb : Array Bool} (hsT : tsl P sT = some E) (hxT : P.underlying xT = some (.slice E')) (hn : tn P E = some n) (hz : tz P E = some zs) (hzn : zs.length = n) (hby : tb P E = some bytes)
    (own : Own B E n h v m cs) (hB : B ≤ h.size) (src : Sl n h s k news) (hone : news.all oneC = true) (hroom : (m + k) * bytes ≤ 140737488355328) (hb1 : 1 ≤ bytes)
    (H : ∀ v' h', Own B E n h' v' (m + k) (cs ++ news) → But (blkOf v) h h' → K v' h') : vBi P T .append #[sT, xT] ty cb [v, s] K h := by
  unfold tsl at hsT
  split at hsT
  · rename_i e' hu
    simp only [Option.some.injEq] at hsT
    subst hsT
    show hw P (do pure (.value (← Builtin.append_ #[sT, xT] ty #[v, s]))) (vNext P T K) h
    rw [hw_bind]
    show hw P (Builtin.append_ #[sT, xT] ty #[v, s]) K h
    obtain ⟨i0, hi0⟩ : ∃ i, P.info? e' = some i := by
      unfold tn at hn
      cases hi : P.info? e' with
      | none => rw [hi] at hn; cases hn
      | some i => exact ⟨i, rfl⟩
    have hib : i0.bytes = bytes := by unfold tb at hby; rw [hi0] at hby; simpa using hby
    obtain ⟨z0, hz0, hzs⟩ : ∃ z, i0.zero = some z ∧ z.cells.toList = zs := by
      unfold tz at hz; rw [hi0] at hz
      cases hzz : i0.zero with
      | none => rw [Option.bind_some, hzz] at hz; cases hz
      | some z => rw [Option.bind_some, hzz] at hz; exact ⟨z, rfl, by simpa using hz⟩
    have hvs : ∃ base cap, v = .slice base m cap := by
      rcases own with ⟨⟨p, rfl⟩, rfl, _⟩ | ⟨b, cap, sp, _, rfl, _⟩
      · exact ⟨_, _, rfl⟩
      · exact ⟨_, _, rfl⟩
    obtain ⟨base, cap, hv⟩ := hvs
    subst hv
    have hzv : ∀ {Q : Value → Hp → Prop} (g : Hp), hw P (zeroValue e') Q g = Q z0 g := fun {Q} g => by
      unfold zeroValue; rw [hw_bind, run_info hi0]; simp only [hz0]; rfl
    simp only [Builtin.append_, List.getElem?_toArray, List.getElem?_cons_zero, List.getElem?_cons_succ, hw_bind, hw_pure, run_under hu, run_under hxT, run_sizeOf hn, Bool.false_eq_true, if_false, src.lenOf, Bool.not_false, if_true]
    by_cases hfit : m + k ≤ cap
    · rw [if_pos hfit, hw_bind]
      refine run_firstCells src ?_
      have hnl : news.length = k * n := by obtain ⟨_, _, _, hl, _⟩ := src; exact hl
      by_cases hne : news = []
      · subst hne
        have hsame : hw P (match base with | some a => (do storeCells (a.add (m * n)) []; pure (Value.slice base (m + k) cap)) | none => pure (Value.slice base (m + k) cap)) K h = K (.slice base (m + k) cap) h := by
          cases base <;> rfl
        have hK : K (.slice base (m + k) cap) h := by
          refine H _ _ ?_ But.refl
          rcases own with ⟨⟨p, h1⟩, h2, h3⟩ | ⟨b, cap', spare, hBb, h1, hb, hl, hsp, hmc⟩
          · simp only [Value.slice.injEq] at h1
            obtain ⟨rfl, rfl, rfl⟩ := h1
            have hk : k = 0 := by omega
            subst hk; subst h3
            exact .inl ⟨⟨_, rfl⟩, rfl, rfl⟩
          · simp only [Value.slice.injEq] at h1
            obtain ⟨rfl, _, rfl⟩ := h1
            have hkn : k * n = 0 := by simpa using hnl.symm
            refine .inr ⟨b, cap, spare, hBb, rfl, by simpa using hb, by rw [List.append_nil, hl, Nat.add_mul, hkn]; rfl, ?_, hfit⟩
            rw [hsp, Nat.sub_mul, Nat.sub_mul, Nat.add_mul, hkn, Nat.add_zero]
        cases base <;> exact hK
      rcases own with ⟨⟨p, h1⟩, h2, h3⟩ | ⟨b, cap', spare, hBb, h1, hb, hl, hsp, hmc⟩
      · simp only [Value.slice.injEq] at h1
        obtain ⟨rfl, rfl, rfl⟩ := h1
        have hk : k = 0 := by omega
        subst hk
        exact (hne (List.eq_nil_of_length_eq_zero (by simpa using hnl))).elim
      · simp only [Value.slice.injEq] at h1
        obtain ⟨rfl, _, rfl⟩ := h1
        simp only [hw_bind, addr_add]
        have hroom2 : news.length ≤ spare.length := by rw [hnl, hsp]; exact Nat.mul_le_mul_right _ (by omega)
        refine run_storeCells (e := e') (lo := 0) (hi := 0) rfl (Nat.le_refl _) news 0 h (cs ++ spare).toArray hb ?_ hone ?_
        · simp; rw [← hl]; omega
        · simp only [hw_pure, Nat.zero_add, Nat.add_zero]
          refine H _ _ (.inr ⟨b, cap, spare.drop news.length, hBb, rfl, ?_, ?_, ?_, hfit⟩) ⟨by simp, fun b' hb' hx => ?_⟩
          · rw [Array.getElem?_setIfInBounds, if_pos rfl, if_pos (lt_of_get hb)]
            rw [← hl, lput_app, lput_zero _ _ hroom2, List.append_assoc]
          · rw [List.length_append, hl, hnl, Nat.add_mul]
          · rw [List.length_drop, hsp, hnl, ← Nat.sub_mul]; congr 1; omega
          · rw [Array.getElem?_setIfInBounds, if_neg]
            intro e; subst e
            have hcz : cap ≠ 0 := by
              intro h0; subst h0
              have : k = 0 := by omega
              subst this
              exact hne (List.eq_nil_of_length_eq_zero (by simpa using hnl))
            exact hx (by simp [blkOf, hcz])
    · rw [if_neg hfit]
      have hcap : ¬ Builtin.nextslicecap (m + k) cap * i0.bytes > 2 ^ 48 := by
        rw [hib]
        have := nextcap_le (m + k) cap bytes (by omega) hroom
        omega
      have hib0 : ¬ i0.bytes = 0 := by rw [hib]; omega
      simp only [hw_bind, run_info hi0, hib0, or_false, and_false, if_false, if_neg hcap]
      intro t
      obtain ⟨c, hc⟩ : ∃ c, c = Question.cut (Question.appendCap (m + k) cap e') t := ⟨_, rfl⟩
      have hcn : m + k ≤ c := by rw [hc]; simp only [Question.cut]; omega
      rw [← hc]
      have hask : ∀ {Q : Unit → Hp → Prop} (b : Nat) (g : Hp), Q () g → hw P (askRoom b) Q g := fun {Q} b g q => by
        unfold askRoom; split <;> exact q
      refine hask _ _ (run_firstCells own.sl (run_firstCells src ?_))
      rw [hzv]
      have hzc : z0.cells.size = n := by rw [← hzn, ← hzs]; simp
      refine H (.slice (some ⟨h.size, 0, none⟩) (m + k) c) _ (.inr ⟨h.size, c, (Builtin.zeroCells z0.cells (c - (m + k))).toList, hB, rfl, ?_, ?_, ?_, hcn⟩) (But.push _)
      · rw [Array.getElem?_push_size]
        simp
      · have hnl : news.length = k * n := by obtain ⟨_, _, _, hl, _⟩ := src; exact hl
        have hcl : cs.length = m * n := by obtain ⟨_, _, _, hl, _⟩ := own.sl; exact hl
        rw [List.length_append, hcl, hnl, Nat.add_mul]
      · rw [Array.length_toList, zeroCells_size, hzc]
  · cases hsT

/-! ### bytes -/
def bv (x : Nat) : Value := .int .u8 x
/-- A slice that reads as these bytes. -/
structure Bs (h : Hp) (v : Value) (l : List Nat) : Prop where
  sl : Sl 1 h v l.length (l.map bv)
  byte : ∀ x ∈ l, x < 256
/-- Bytes that the call itself has made. -/
structure OBs (B : Nat) (E : TypeId) (h : Hp) (v : Value) (l : List Nat) : Prop where
  own : Own B E 1 h v l.length (l.map bv)
  byte : ∀ x ∈ l, x < 256
theorem OBs.bs {B : Nat} {E : TypeId} {h : Hp} {v : Value} {l : List Nat} (s : OBs B E h v l) : Bs h v l := ⟨s.own.sl, s.byte⟩
theorem Bs.bel {h h' : Hp} {v : Value} {l : List Nat} (s : Bs h v l) (a : Bel h.size h h') : Bs h' v l := ⟨s.sl.bel a, s.byte⟩
theorem OBs.bel {B C : Nat} {E : TypeId} {h h' : Hp} {v : Value} {l : List Nat} (s : OBs B E h v l) (a : Bel C h h') (hC : h.size ≤ C) : OBs B E h' v l := ⟨s.own.bel a hC, s.byte⟩
theorem OBs.mono {B B' : Nat} {E : TypeId} {h : Hp} {v : Value} {l : List Nat} (s : OBs B E h v l) (hB : B' ≤ B) : OBs B' E h v l := ⟨s.own.mono hB, s.byte⟩
theorem OBs.push {B : Nat} {E : TypeId} {h : Hp} {v : Value} {l : List Nat} (s : OBs B E h v l) (o : Obj) : OBs B E (h.push o) v l := ⟨s.own.push o, s.byte⟩
theorem OBs.nil (B : Nat) (E : TypeId) (h : Hp) : OBs B E h (.slice none 0 0) [] := ⟨Own.nil B E 1 h, fun _ h => by cases h⟩
theorem bv_one (l : List Nat) : (l.map bv).all oneC = true := by simp [bv, oneC]

/-- What a slice of bytes is, opened. -/
theorem Bs.open {v : Value} {l : List Nat} (s : Bs h v l) : ∃ p cap, v = .slice p l.length cap ∧ (l ≠ [] → ∃ b o, p = some ⟨b, o, none⟩ ∧ b < h.size ∧ ∀ i (hi : i < l.length), hc h ⟨b, o + i, none⟩ = some (.int .u8 (l[i] : Nat))) := by
  obtain ⟨⟨p, cap, hv, _, hc⟩, _⟩ := s
  refine ⟨p, cap, hv, fun hne => ?_⟩
  obtain ⟨b, o, hp, hcs⟩ := hc (by simpa using hne)
  refine ⟨b, o, hp, ?_, fun i hi => ?_⟩
  · exact lt_of_hc (hcs 0 (by simpa using List.length_pos_iff.2 hne))
  · have := hcs i (by simpa using hi)
    simpa [bv] using this

theorem run_toString : ∀ (l : List Nat) (s : ByteArray) {Q : Value → Hp → Prop}, Q (.string ⟨s.data ++ (l.map UInt8.ofNat).toArray⟩) h →
    hw P (do
      let s ← forIn (l.map bv) s fun c (s : ByteArray) => do
        let .int .u8 n := c | stuck "bytesToString: byte expected"
        pure (ForInStep.yield (s.push (UInt8.ofNat n.toNat)))
      pure (Value.string s)) Q h := by
  intro l
  induction l with
  | nil => intro s Q H; simpa [hw_pure] using H
  | cons x l ih =>
    intro s Q H
    rw [List.map_cons, List.forIn_cons, hw_bind, hw_bind]
    show hw P _ _ h
    have := ih (s.push (UInt8.ofNat x)) (Q := Q) (by simpa [ByteArray.push] using H)
    rw [hw_bind] at this
    simpa [bv, hw_pure] using this

theorem conv_str {S D E : TypeId} {v : Value} {l : List Nat} (hS : P.underlying S = some (.slice E)) (hD : P.underlying D = some .string) (hE : P.underlying E = some (.int .u8)) (s : Bs h v l)
    (H : K (.string ⟨(l.map UInt8.ofNat).toArray⟩) h) : vConv P S D v K h := by
  have s0 := s.sl
  obtain ⟨⟨p, cap, rfl, hl, hc⟩, hb⟩ := s
  unfold vConv convert
  rw [hw_bind, run_under hS, hw_bind, run_under hD]
  simp only
  rw [hw_bind, run_under hE]
  unfold Conv.bytesToString
  cases p with
  | none =>
    have : l = [] := by
      cases l with
      | nil => rfl
      | cons x l => obtain ⟨b, o, hp, _⟩ := hc (by simp); cases hp
    subst this
    exact H
  | some a =>
    simp only
    rw [hw_bind]
    have h1 := run_firstCells (P := P) s0 (Q := fun cs g => hw P (do
      let s ← forIn cs ByteArray.empty fun c (s : ByteArray) => do
        let .int .u8 n := c | stuck "bytesToString: byte expected"
        pure (ForInStep.yield (s.push (UInt8.ofNat n.toNat)))
      pure (Value.string s)) K g)
    unfold Builtin.firstCells at h1
    rw [Nat.mul_one] at h1
    refine h1 ?_
    rw [List.forIn_toArray]
    exact run_toString l _ (by simpa using H)
theorem bytes_eq (l k : List Nat) (hl : ∀ x ∈ l, x < 256) (hk : ∀ x ∈ k, x < 256) : ((⟨(l.map UInt8.ofNat).toArray⟩ : ByteArray).toList == (⟨(k.map UInt8.ofNat).toArray⟩ : ByteArray).toList) = decide (l = k) := by
  have e : ∀ l : List Nat, (⟨(l.map UInt8.ofNat).toArray⟩ : ByteArray).toList = l.map UInt8.ofNat := by
    intro l
    rw [ByteArray.toList_eq]
  rw [e, e, Bool.eq_iff_iff, beq_iff_eq, decide_eq_true_eq]
  constructor
  · intro h
    have h2 : (l.map UInt8.ofNat).map UInt8.toNat = (k.map UInt8.ofNat).map UInt8.toNat := by rw [h]
    rw [List.map_map, List.map_map] at h2
    have g : ∀ l : List Nat, (∀ x ∈ l, x < 256) → l.map (UInt8.toNat ∘ UInt8.ofNat) = l := by
      intro l hl
      conv => rhs; rw [← List.map_id l]
      refine List.map_congr_left fun x hx => ?_
      have := hl x hx
      simp; omega
    rwa [g l hl, g k hk] at h2
  · intro h; rw [h]
end
end Go.V
