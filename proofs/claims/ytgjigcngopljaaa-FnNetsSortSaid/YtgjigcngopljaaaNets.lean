/- Plain lemmas on comparator nets: the 0-1 principle, and a check by planes of bits that a net sorts. No program in sight. -/
namespace NetMath

/-- One wire over a state: the lesser of both goes to the first place. -/
def cx {α : Type} (lt : α → α → Bool) (w : Nat × Nat) (f : Nat → α) : Nat → α :=
  if lt (f w.2) (f w.1) then (fun i => if i = w.1 then f w.2 else if i = w.2 then f w.1 else f i) else f
def run {α : Type} (lt : α → α → Bool) : List (Nat × Nat) → (Nat → α) → (Nat → α)
  | [], f => f
  | w :: ws, f => run lt ws (cx lt w f)
def ltB (a b : Bool) : Bool := !a && b

theorem run_append {α : Type} (lt : α → α → Bool) (ws vs : List (Nat × Nat)) : ∀ f, run lt (ws ++ vs) f = run lt vs (run lt ws f) := by
  induction ws with
  | nil => intro f; rfl
  | cons w ws ih => intro f; exact ih _

structure Ord {α : Type} (lt : α → α → Bool) : Prop where
  irrefl : ∀ x, lt x x = false
  ntrans : ∀ x y z, lt x y = false → lt y z = false → lt x z = false
  asymm : ∀ x y, lt x y = true → lt y x = false

def Up {α : Type} (lt : α → α → Bool) (p : α → Bool) : Prop := ∀ x y, p x = true → lt y x = false → p y = true
def Srt {α : Type} (lt : α → α → Bool) (n : Nat) (f : Nat → α) : Prop := ∀ i, i + 1 < n → lt (f (i + 1)) (f i) = false

theorem cx_at {α : Type} (lt : α → α → Bool) (w : Nat × Nat) (f : Nat → α) (i : Nat) :
    cx lt w f i = if lt (f w.2) (f w.1) then (if i = w.1 then f w.2 else if i = w.2 then f w.1 else f i) else f i := by
  unfold cx; split <;> rfl
theorem cx_up {α : Type} {lt : α → α → Bool} (ho : Ord lt) {p : α → Bool} (hp : Up lt p) (w : Nat × Nat) (f : Nat → α) :
    (fun i => p (cx lt w f i)) = cx ltB w (fun i => p (f i)) := by
  funext i
  rw [cx_at, cx_at]
  unfold ltB
  have e1 : i = w.1 → f i = f w.1 := fun e => by rw [e]
  have e2 : i = w.2 → f i = f w.2 := fun e => by rw [e]
  cases h : lt (f w.2) (f w.1) with
  | true =>
    have h3 : p (f w.2) = true → p (f w.1) = true := fun hx => hp _ _ hx (ho.asymm _ _ h)
    cases hb : p (f w.2) <;> cases ha : p (f w.1) <;> by_cases c1 : i = w.1 <;> by_cases c2 : i = w.2 <;> simp_all
  | false =>
    have h3 : p (f w.1) = true → p (f w.2) = true := fun hx => hp _ _ hx h
    cases hb : p (f w.2) <;> cases ha : p (f w.1) <;> by_cases c1 : i = w.1 <;> by_cases c2 : i = w.2 <;> simp_all

theorem run_up {α : Type} {lt : α → α → Bool} (ho : Ord lt) {p : α → Bool} (hp : Up lt p) (ws : List (Nat × Nat)) : ∀ f : Nat → α,
    (fun i => p (run lt ws f i)) = run ltB ws (fun i => p (f i)) := by
  induction ws with
  | nil => intro f; rfl
  | cons w ws ih => intro f; show (fun i => p (run lt ws (cx lt w f) i)) = run ltB ws (cx ltB w fun i => p (f i)); rw [ih, cx_up ho hp]

/-- The 0-1 principle: what sorts every state of two values sorts. -/
theorem zero_one {α : Type} {lt : α → α → Bool} (ho : Ord lt) (n : Nat) (ws : List (Nat × Nat))
    (h : ∀ g : Nat → Bool, Srt ltB n (run ltB ws g)) (f : Nat → α) : Srt lt n (run lt ws f) := by
  intro i hi
  have hp : Up lt (fun x => !lt x (run lt ws f i)) := by
    intro x y hx hy
    have hx' : lt x (run lt ws f i) = false := by simpa using hx
    have := ho.ntrans _ _ _ hy hx'
    simp [this]
  have h1 := h (fun j => !lt (f j) (run lt ws f i)) i hi
  rw [← run_up ho hp ws f] at h1
  simp only [ltB, ho.irrefl] at h1
  simpa using h1

/-- What a net does to the first n places hangs on these alone. -/
theorem cx_congr {α : Type} (lt : α → α → Bool) (n : Nat) (w : Nat × Nat) (h1 : w.1 < n) (h2 : w.2 < n) {f g : Nat → α} (h : ∀ i, i < n → f i = g i) : ∀ i, i < n → cx lt w f i = cx lt w g i := by
  intro i hi
  rw [cx_at, cx_at, h _ h1, h _ h2, h i hi]
theorem run_congr {α : Type} (lt : α → α → Bool) (n : Nat) (ws : List (Nat × Nat)) (hw : ∀ w, w ∈ ws → w.1 < n ∧ w.2 < n) : ∀ {f g : Nat → α}, (∀ i, i < n → f i = g i) → ∀ i, i < n → run lt ws f i = run lt ws g i := by
  induction ws with
  | nil => intro f g h; exact h
  | cons w ws ih =>
    intro f g h
    have hh := hw w List.mem_cons_self
    exact ih (fun v hv => hw v (List.mem_cons_of_mem _ hv)) (cx_congr lt n w hh.1 hh.2 h)

/-! ### planes: many states of two values at once -/
def cxP (w : Nat × Nat) (ps : List Nat) : List Nat := (ps.set w.1 (ps.getD w.1 0 &&& ps.getD w.2 0)).set w.2 (ps.getD w.1 0 ||| ps.getD w.2 0)
def runP : List (Nat × Nat) → List Nat → List Nat
  | [], ps => ps
  | w :: ws, ps => runP ws (cxP w ps)
def inR (n : Nat) (w : Nat × Nat) : Bool := decide (w.1 < n) && (decide (w.2 < n) && !decide (w.1 = w.2))

theorem getD_set (ps : List Nat) (i j v : Nat) (h : i < ps.length) : (ps.set i v).getD j 0 = if j = i then v else ps.getD j 0 := by
  rw [List.getD_eq_getElem?_getD, List.getD_eq_getElem?_getD, List.getElem?_set]
  by_cases e : i = j
  · subst e; simp [h]
  · have e' : ¬ j = i := fun x => e x.symm
    simp [e, e']

theorem cxP_bit (n t : Nat) (w : Nat × Nat) (ps : List Nat) (f : Nat → Bool) (hl : ps.length = n) (hr : inR n w = true)
    (h : ∀ i, i < n → (ps.getD i 0).testBit t = f i) : (cxP w ps).length = n ∧ ∀ i, i < n → ((cxP w ps).getD i 0).testBit t = cx ltB w f i := by
  simp only [inR, Bool.and_eq_true, decide_eq_true_eq, Bool.not_eq_true', decide_eq_false_iff_not] at hr
  obtain ⟨h1, h2, h3⟩ := hr
  refine ⟨by simp [cxP, hl], fun i hi => ?_⟩
  unfold cxP
  rw [getD_set _ _ _ _ (by simpa [hl] using h2), getD_set _ _ _ _ (by omega)]
  have ha := h _ h1
  have hb := h _ h2
  have hh := h _ hi
  have h3' : ¬ w.2 = w.1 := fun e => h3 e.symm
  rw [cx_at]
  unfold ltB
  by_cases e2 : i = w.2
  · subst e2
    rw [if_pos rfl, Nat.testBit_or, ha, hb]
    cases x : f w.1 <;> cases y : f w.2 <;> simp [h3']
  · rw [if_neg e2]
    by_cases e1 : i = w.1
    · subst e1
      rw [if_pos rfl, Nat.testBit_and, ha, hb]
      cases x : f w.1 <;> cases y : f w.2 <;> simp
    · rw [if_neg e1, hh, if_neg e1, if_neg e2]
      split <;> rfl

theorem runP_bit (n t : Nat) (ws : List (Nat × Nat)) : ∀ (ps : List Nat) (f : Nat → Bool), ps.length = n → ws.all (inR n) = true →
    (∀ i, i < n → (ps.getD i 0).testBit t = f i) → ∀ i, i < n → ((runP ws ps).getD i 0).testBit t = run ltB ws f i := by
  induction ws with
  | nil => intro ps f _ _ h; exact h
  | cons w ws ih =>
    intro ps f hl hr h
    simp only [List.all_cons, Bool.and_eq_true] at hr
    have hh := cxP_bit n t w ps f hl hr.1 h
    exact ih (cxP w ps) (cx ltB w f) hh.1 hr.2 hh.2

def ofBits (c : Nat → Bool) : Nat → Nat
  | 0 => 0
  | n + 1 => ofBits c n ||| (if c n then 2 ^ n else 0)
theorem ofBits_bit (c : Nat → Bool) (t : Nat) : ∀ n, (ofBits c n).testBit t = (decide (t < n) && c t)
  | 0 => by simp [ofBits]
  | n + 1 => by
    rw [ofBits, Nat.testBit_or, ofBits_bit c t n]
    by_cases e : n = t
    · subst e
      have h1 : decide (n < n) = false := by simp
      have h2 : decide (n < n + 1) = true := by simp
      rw [h1, h2]
      cases hc : c n <;> simp
    · have h1 : decide (t < n + 1) = decide (t < n) := by
        apply decide_eq_decide.2; omega
      rw [h1]
      cases hc : c n <;> simp [e]

/-- Of a sorted state of two values: how many are true. -/
theorem sorted_form (f : Nat → Bool) : ∀ m, Srt ltB m f → ∃ a, a ≤ m ∧ ∀ i, i < m → f i = decide (m ≤ i + a)
  | 0, _ => ⟨0, Nat.le_refl _, fun i hi => absurd hi (by omega)⟩
  | m + 1, h => by
    obtain ⟨a, ha, hf⟩ := sorted_form f m (fun i hi => h i (by omega))
    cases hm : f m with
    | true =>
      refine ⟨a + 1, by omega, fun i hi => ?_⟩
      by_cases e : i = m
      · subst e; rw [hm]; symm; apply decide_eq_true; omega
      · rw [hf i (by omega)]; apply decide_eq_decide.2; omega
    | false =>
      have ha0 : a = 0 ∨ m = 0 := by
        by_cases e : a = 0
        · exact .inl e
        · by_cases e2 : m = 0
          · exact .inr e2
          · have h1 := hf (m - 1) (by omega)
            have h2 := h (m - 1) (by omega)
            rw [show m - 1 + 1 = m from by omega, hm, h1] at h2
            have : decide (m ≤ m - 1 + a) = true := by apply decide_eq_true; omega
            rw [this] at h2
            exact absurd h2 (by decide)
      refine ⟨0, by omega, fun i hi => ?_⟩
      have hz : decide (m + 1 ≤ i + 0) = false := by apply decide_eq_false; omega
      rw [hz]
      by_cases e : i = m
      · subst e; exact hm
      · rw [hf i (by omega)]; apply decide_eq_false
        rcases ha0 with h0 | h0 <;> omega

/-! ### merging two sorted halves -/
def mbit (m i t : Nat) : Bool := if i < m then decide (m ≤ i + t / (m + 1)) else decide (m ≤ (i - m) + t % (m + 1))
def plane (m i : Nat) : Nat := ofBits (mbit m i) ((m + 1) * (m + 1))
def up : List Nat → Bool
  | x :: y :: r => (x &&& y) == x && up (y :: r)
  | _ => true
def okMerge (m : Nat) (ws : List (Nat × Nat)) : Bool :=
  ws.all (inR (2 * m)) && up (runP ws ((List.range (2 * m)).map (plane m)))

theorem up_at : ∀ (l : List Nat) (i : Nat), up l = true → i + 1 < l.length → l.getD i 0 &&& l.getD (i + 1) 0 = l.getD i 0
  | [], i, _, hi => absurd hi (by simp)
  | [x], i, _, hi => absurd hi (by simp)
  | x :: y :: r, 0, h, _ => by
    simp only [up, Bool.and_eq_true, beq_iff_eq] at h
    simpa using h.1
  | x :: y :: r, i + 1, h, hi => by
    simp only [up, Bool.and_eq_true, beq_iff_eq] at h
    have := up_at (y :: r) i h.2 (by simpa using hi)
    simpa using this

theorem runP_length (ws : List (Nat × Nat)) : ∀ ps, (runP ws ps).length = ps.length := by
  induction ws with
  | nil => intro ps; rfl
  | cons w ws ih => intro ps; rw [runP, ih]; simp [cxP]

theorem okMerge_sound (m : Nat) (ws : List (Nat × Nat)) (h : okMerge m ws = true) (f : Nat → Bool) (h1 : Srt ltB m f) (h2 : Srt ltB m (fun i => f (m + i))) :
    Srt ltB (2 * m) (run ltB ws f) := by
  simp only [okMerge, Bool.and_eq_true] at h
  obtain ⟨hr, hu⟩ := h
  obtain ⟨a, ha, hfa⟩ := sorted_form f m h1
  obtain ⟨b, hb, hfb⟩ := sorted_form _ m h2
  have ht : a * (m + 1) + b < (m + 1) * (m + 1) := by
    have : a * (m + 1) ≤ m * (m + 1) := Nat.mul_le_mul_right _ ha
    have e : (m + 1) * (m + 1) = m * (m + 1) + (m + 1) := Nat.succ_mul m (m + 1)
    omega
  have hdiv : (a * (m + 1) + b) / (m + 1) = a := by
    rw [Nat.mul_comm, Nat.mul_add_div (by omega), Nat.div_eq_of_lt (by omega)]; rfl
  have hmod : (a * (m + 1) + b) % (m + 1) = b := by
    rw [Nat.mul_comm, Nat.mul_add_mod, Nat.mod_eq_of_lt (by omega)]
  have hl : ((List.range (2 * m)).map (plane m)).length = 2 * m := by simp
  have hbit : ∀ i, i < 2 * m → (((List.range (2 * m)).map (plane m)).getD i 0).testBit (a * (m + 1) + b) = f i := by
    intro i hi
    have e1 : ((List.range (2 * m)).map (plane m)).getD i 0 = plane m i := by
      rw [List.getD_eq_getElem?_getD, List.getElem?_map, List.getElem?_range hi]; rfl
    have e2 : decide (a * (m + 1) + b < (m + 1) * (m + 1)) = true := decide_eq_true ht
    rw [e1, plane, ofBits_bit, e2, Bool.true_and, mbit, hdiv, hmod]
    split
    · rename_i hlt; exact (hfa i hlt).symm
    · rename_i hge
      have := hfb (i - m) (by omega)
      rw [show m + (i - m) = i from by omega] at this
      exact this.symm
  have hrun := runP_bit (2 * m) (a * (m + 1) + b) ws _ f hl hr hbit
  intro i hi
  have hup := up_at _ i hu (by rw [runP_length, hl]; exact hi)
  have b1 := hrun i (by omega)
  have b2 := hrun (i + 1) hi
  have b3 := congrArg (fun x => Nat.testBit x (a * (m + 1) + b)) hup
  simp only [Nat.testBit_and] at b3
  rw [b1, b2] at b3
  have key : ∀ x y : Bool, (x && y) = x → ltB y x = false := by decide
  exact key _ _ b3

/-! ### blocks -/
def loc (s j : Nat) : List (Nat × Nat) → List (Nat × Nat)
  | [] => []
  | w :: ws => if w.1 / s = j then (w.1 - j * s, w.2 - j * s) :: loc s j ws else loc s j ws
def inB (s : Nat) (w : Nat × Nat) : Bool := w.1 / s == w.2 / s

theorem in_block {s j x : Nat} (hs : 0 < s) (h : x / s = j) : j * s ≤ x ∧ x < j * s + s := by
  subst h
  have h1 := Nat.div_add_mod x s
  have h2 := Nat.mod_lt x hs
  rw [Nat.mul_comm] at h1
  omega

theorem run_loc {α : Type} (lt : α → α → Bool) (s j : Nat) (hs : 0 < s) (ws : List (Nat × Nat)) : ws.all (inB s) = true → ∀ {f g : Nat → α}, (∀ i, i < s → f (j * s + i) = g i) →
    ∀ i, i < s → run lt ws f (j * s + i) = run lt (loc s j ws) g i := by
  induction ws with
  | nil => intro _ f g h; exact h
  | cons w ws ih =>
    intro hw f g h
    simp only [List.all_cons, Bool.and_eq_true] at hw
    have hb : w.1 / s = w.2 / s := by simpa [inB] using hw.1
    have ih' := fun {f g : Nat → α} => ih hw.2 (f := f) (g := g)
    by_cases e : w.1 / s = j
    · have k1 := in_block hs e
      have k2 := in_block hs (hb ▸ e : w.2 / s = j)
      have hl : loc s j (w :: ws) = (w.1 - j * s, w.2 - j * s) :: loc s j ws := by simp [loc, e]
      rw [hl]
      refine ih' (f := cx lt w f) (g := cx lt (w.1 - j * s, w.2 - j * s) g) ?_
      intro i hi
      have g1 := h (w.1 - j * s) (by omega)
      have g2 := h (w.2 - j * s) (by omega)
      rw [show j * s + (w.1 - j * s) = w.1 from by omega] at g1
      rw [show j * s + (w.2 - j * s) = w.2 from by omega] at g2
      rw [cx_at, cx_at]
      simp only [g1, g2]
      split
      · by_cases a1 : i = w.1 - j * s
        · have a1' : j * s + i = w.1 := by omega
          rw [if_pos a1', if_pos a1]
        · have a1' : ¬ j * s + i = w.1 := by omega
          rw [if_neg a1', if_neg a1]
          by_cases a2 : i = w.2 - j * s
          · have a2' : j * s + i = w.2 := by omega
            rw [if_pos a2', if_pos a2]
          · have a2' : ¬ j * s + i = w.2 := by omega
            rw [if_neg a2', if_neg a2]
            exact h i hi
      · exact h i hi
    · have hl : loc s j (w :: ws) = loc s j ws := by simp [loc, e]
      rw [hl]
      refine ih' (f := cx lt w f) (g := g) ?_
      intro i hi
      have hd : (j * s + i) / s = j := by
        rw [Nat.mul_comm, Nat.mul_add_div hs, Nat.div_eq_of_lt hi]; rfl
      have n1 : ¬ j * s + i = w.1 := fun x => e (by rw [← x]; exact hd)
      have n2 : ¬ j * s + i = w.2 := fun x => e (by rw [hb, ← x]; exact hd)
      rw [cx_at, if_neg n1, if_neg n2]
      split <;> exact h i hi

/-- All q blocks of m places are sorted. -/
def Blocks (q m : Nat) (f : Nat → Bool) : Prop := ∀ j, j < q → Srt ltB m (fun i => f (j * m + i))
def okStage (q m : Nat) (ws : List (Nat × Nat)) : Bool := ws.all (inB (2 * m)) && (List.range q).all (fun j => okMerge m (loc (2 * m) j ws))

theorem okStage_sound (q m : Nat) (hm : 0 < m) (ws : List (Nat × Nat)) (h : okStage q m ws = true) (f : Nat → Bool) (hb : Blocks (2 * q) m f) : Blocks q (2 * m) (run ltB ws f) := by
  simp only [okStage, Bool.and_eq_true] at h
  obtain ⟨h1, h2⟩ := h
  intro j hj
  have hk : okMerge m (loc (2 * m) j ws) = true := (List.all_eq_true.1 h2) j (List.mem_range.2 hj)
  have ho := okMerge_sound m _ hk (fun i => f (j * (2 * m) + i)) (by
      have := hb (2 * j) (by omega)
      have e : 2 * j * m = j * (2 * m) := by rw [Nat.mul_comm 2 j, Nat.mul_assoc]
      rw [e] at this
      exact this) (by
      have := hb (2 * j + 1) (by omega)
      have e : (2 * j + 1) * m = j * (2 * m) + m := by rw [Nat.add_mul, Nat.mul_comm 2 j, Nat.mul_assoc, Nat.one_mul]
      rw [e] at this
      intro i hi
      have := this i hi
      simpa only [Nat.add_assoc] using this)
  have hr := run_loc ltB (2 * m) j (by omega) ws h1 (f := f) (g := fun i => f (j * (2 * m) + i)) (fun _ _ => rfl)
  intro i hi
  have := ho i hi
  simp only
  rw [hr i (by omega), hr (i + 1) hi]
  exact this

def okStages : Nat → Nat → List (List (Nat × Nat)) → Bool
  | q, _, [] => q == 1
  | q, m, ws :: r => q % 2 == 0 && (okStage (q / 2) m ws && okStages (q / 2) (2 * m) r)
theorem okStages_sound (S : List (List (Nat × Nat))) : ∀ (q m : Nat), 0 < m → okStages q m S = true → ∀ f, Blocks q m f → Srt ltB (q * m) (run ltB S.flatten f) := by
  induction S with
  | nil =>
    intro q m _ h f hb
    have hq : q = 1 := by simpa [okStages] using h
    subst hq
    have := hb 0 (by omega)
    simpa [run] using this
  | cons ws r ih =>
    intro q m hm h f hb
    simp only [okStages, Bool.and_eq_true, beq_iff_eq] at h
    obtain ⟨h0, h1, h2⟩ := h
    have e : 2 * (q / 2) = q := by omega
    have hb' := okStage_sound (q / 2) m hm ws h1 f (by rw [e]; exact hb)
    have := ih (q / 2) (2 * m) (by omega) h2 _ hb'
    rw [List.flatten_cons, run_append]
    rw [← Nat.mul_assoc, Nat.mul_comm (q / 2) 2, e] at this
    exact this
/-- A net that passes the check sorts. -/
theorem sorts_of_check (n : Nat) (S : List (List (Nat × Nat))) (h : okStages n 1 S = true) (g : Nat → Bool) : Srt ltB n (run ltB S.flatten g) := by
  have := okStages_sound S n 1 (by omega) h g (fun j _ i hi => absurd hi (by omega))
  rwa [Nat.mul_one] at this

/-! ### the two nets -/
def halves : Nat → Nat → List Nat
  | 0, _ => []
  | k + 1, h => if h = 0 then [] else h :: halves k (h / 2)
def biStage (n s : Nat) : List (Nat × Nat) :=
  ((List.range (n / s)).flatMap fun b => (List.range (s / 2)).map fun i => (b * s + i, b * s + s - 1 - i)) ++
  ((halves 7 (s / 4)).flatMap fun h => (List.range (n / (2 * h))).flatMap fun b => (List.range h).map fun i => (b * (2 * h) + i, b * (2 * h) + i + h))
def oeStage (n s : Nat) : List (Nat × Nat) :=
  ((List.range (n / s)).flatMap fun b => (List.range (s / 2)).map fun i => (b * s + i, b * s + i + s / 2)) ++
  ((halves 7 (s / 4)).flatMap fun h => (List.range (n / s)).flatMap fun b => ((List.range s).filter fun p => decide (h ≤ p ∧ p < s - h ∧ p / h % 2 = 1)).map fun p => (b * s + p, b * s + p + h))
def sizes : Nat → List Nat
  | 0 => []
  | k + 1 => sizes k ++ [2 ^ (k + 1)]
def biNet (k : Nat) : List (List (Nat × Nat)) := (sizes k).map (biStage (2 ^ k))
def oeNet (k : Nat) : List (List (Nat × Nat)) := (sizes k).map (oeStage (2 ^ k))
set_option maxRecDepth 100000 in
theorem bi_ok : ∀ k, k < 7 → okStages (2 ^ k) 1 (biNet k) = true := by decide +kernel
set_option maxRecDepth 100000 in
theorem oe_ok : ∀ k, k < 7 → okStages (2 ^ k) 1 (oeNet k) = true := by decide +kernel
/-! ### the bubble net, of any number of places -/
def pass (r : Nat) : List (Nat × Nat) := (List.range r).map fun i => (i, i + 1)
def bubW : Nat → List (Nat × Nat)
  | 0 => []
  | r + 1 => pass (r + 1) ++ bubW r

theorem pass_succ (r : Nat) : pass (r + 1) = pass r ++ [(r, r + 1)] := by simp [pass, List.range_succ]
theorem cx_lo (a b : Nat) (f : Nat → Bool) : cx ltB (a, b) f a = (f a && f b) := by
  unfold cx ltB; cases ha : f a <;> cases hb : f b <;> simp [ha]
theorem cx_hi (a b : Nat) (f : Nat → Bool) (h : a ≠ b) : cx ltB (a, b) f b = (f a || f b) := by
  have h' : ¬ b = a := fun e => h e.symm
  unfold cx ltB; cases ha : f a <;> cases hb : f b <;> simp [hb, h']
theorem cx_else (a b i : Nat) (f : Nat → Bool) (h1 : i ≠ a) (h2 : i ≠ b) : cx ltB (a, b) f i = f i := by
  unfold cx; split
  · simp [h1, h2]
  · rfl
theorem pass_run (f : Nat → Bool) : ∀ r, (∀ i, r < i → run ltB (pass r) f i = f i) ∧ (∀ i, i ≤ r → run ltB (pass r) f i = true → ∃ j, j ≤ r ∧ f j = true) ∧ (∀ j, j ≤ r → f j = true → run ltB (pass r) f r = true)
  | 0 => by
    refine ⟨fun i _ => rfl, fun i hi h => ⟨i, hi, h⟩, fun j hj h => ?_⟩
    obtain rfl : j = 0 := by omega
    exact h
  | r + 1 => by
    obtain ⟨h1, h2, h3⟩ := pass_run f r
    rw [pass_succ, run_append]
    generalize hg : run ltB (pass r) f = g at h1 h2 h3
    show (∀ i, r + 1 < i → cx ltB (r, r + 1) g i = f i) ∧ (∀ i, i ≤ r + 1 → cx ltB (r, r + 1) g i = true → ∃ j, j ≤ r + 1 ∧ f j = true) ∧ (∀ j, j ≤ r + 1 → f j = true → cx ltB (r, r + 1) g (r + 1) = true)
    have e1 := h1 (r + 1) (by omega)
    refine ⟨fun i hi => ?_, fun i hi h => ?_, fun j hj h => ?_⟩
    · rw [cx_else _ _ _ _ (by omega) (by omega)]; exact h1 i (by omega)
    · by_cases a : i = r + 1
      · subst a
        rw [cx_hi _ _ _ (by omega), Bool.or_eq_true] at h
        rcases h with h | h
        · obtain ⟨j, hj, hf⟩ := h2 r (Nat.le_refl _) h; exact ⟨j, by omega, hf⟩
        · exact ⟨r + 1, Nat.le_refl _, by rw [← e1]; exact h⟩
      · by_cases b : i = r
        · subst b
          rw [cx_lo, Bool.and_eq_true] at h
          exact ⟨i + 1, Nat.le_refl _, by rw [← e1]; exact h.2⟩
        · rw [cx_else _ _ _ _ b a] at h
          obtain ⟨j, hj, hf⟩ := h2 i (by omega) h
          exact ⟨j, by omega, hf⟩
    · rw [cx_hi _ _ _ (by omega), Bool.or_eq_true]
      by_cases a : j = r + 1
      · subst a; exact .inr (by rw [e1]; exact h)
      · exact .inl (h3 j (by omega) h)
theorem bub_inv (n : Nat) : ∀ (r : Nat) (f : Nat → Bool), (∀ j i, r < j → j < n → i < j → f i = true → f j = true) → r < n → ∀ j i, j < n → i < j → run ltB (bubW r) f i = true → run ltB (bubW r) f j = true
  | 0, f, h, _ => fun j i hj hi hf => h j i (by omega) hj hi hf
  | r + 1, f, h, hr => by
    rw [bubW, run_append]
    obtain ⟨h1, h2, h3⟩ := pass_run f (r + 1)
    refine bub_inv n r _ (fun j i hj hjn hi hf => ?_) (by omega)
    by_cases e : j = r + 1
    · subst e
      obtain ⟨q, hq, hfq⟩ := h2 i (by omega) hf
      exact h3 q hq hfq
    · rw [h1 j (by omega)]
      by_cases e2 : i ≤ r + 1
      · obtain ⟨q, hq, hfq⟩ := h2 i e2 hf
        exact h j q (by omega) hjn (by omega) hfq
      · rw [h1 i (by omega)] at hf
        exact h j i (by omega) hjn hi hf
theorem bub_sorts (n : Nat) (f : Nat → Bool) : Srt ltB n (run ltB (bubW (n - 1)) f) := by
  intro i hi
  have := bub_inv n (n - 1) f (fun j i hj hjn => absurd hj (by omega)) (by omega) (i + 1) i hi (by omega)
  have key : ∀ x y : Bool, (x = true → y = true) → ltB y x = false := by decide
  exact key _ _ this
end NetMath
/- Plain lemmas on sorting by a strict order: insertion from behind, a net's run over a list, a padded list. No program in sight. -/
namespace RankMath
open NetMath

def Sorted {α : Type} (lt : α → α → Bool) (l : List α) : Prop := l.Pairwise (fun a b => lt b a = false)

theorem sorted_unique {α : Type} {lt : α → α → Bool} {l1 l2 : List α} (hp : l1.Perm l2) (h1 : Sorted lt l1) (h2 : Sorted lt l2)
    (tri : ∀ x y, x ∈ l1 → y ∈ l1 → lt x y = false → lt y x = false → x = y) : l1 = l2 :=
  List.Perm.eq_of_pairwise (le := fun a b => lt b a = false) (fun a b ha hb hab hba => tri a b ha (hp.mem_iff.2 hb) hba hab) h1 h2 hp

/-- Where the reference puts x: behind the last element that x does not precede, scanned from behind. -/
def cut {α : Type} (lt : α → α → Bool) (x : α) : List α → Nat
  | [] => 0
  | y :: l => if cut lt x l = 0 then (if lt x y then 0 else 1) else cut lt x l + 1

theorem cut_le {α : Type} (lt : α → α → Bool) (x : α) : ∀ l, cut lt x l ≤ l.length
  | [] => Nat.le_refl _
  | y :: l => by
    have := cut_le lt x l
    unfold cut
    simp only [List.length_cons]
    split
    · split <;> omega
    · omega
theorem cut_after {α : Type} (lt : α → α → Bool) (x : α) : ∀ (l : List α) (j : Nat) (hj : j < l.length), cut lt x l ≤ j → lt x l[j] = true
  | [], j, hj, _ => absurd hj (by simp)
  | y :: l, 0, hj, h => by
    unfold cut at h
    split at h
    · split at h
      · simpa using ‹_›
      · omega
    · omega
  | y :: l, j + 1, hj, h => by
    have := cut_after lt x l j (by simpa using hj) (by
      unfold cut at h
      split at h
      · rw [‹cut lt x l = 0›]; omega
      · omega)
    simpa using this
theorem cut_before {α : Type} (lt : α → α → Bool) (x : α) : ∀ (l : List α) (h0 : 0 < cut lt x l), lt x (l[cut lt x l - 1]'(by have := cut_le lt x l; omega)) = false
  | [], h0 => absurd h0 (by simp [cut])
  | y :: l, h0 => by
    by_cases c : cut lt x l = 0
    · have e : cut lt x (y :: l) = if lt x y then 0 else 1 := by rw [cut, if_pos c]
      cases hx : lt x y with
      | true => rw [e, hx] at h0; simp at h0
      | false =>
        have e1 : cut lt x (y :: l) = 1 := by rw [e, hx]; rfl
        simp only [e1]
        exact hx
    · have e : cut lt x (y :: l) = cut lt x l + 1 := by rw [cut, if_neg c]
      have := cut_before lt x l (by omega)
      simp only [e]
      obtain ⟨m, hm⟩ : ∃ m, cut lt x l = m + 1 := ⟨cut lt x l - 1, by omega⟩
      simp only [hm] at this ⊢
      exact this
theorem cut_unique {α : Type} (lt : α → α → Bool) (x : α) (l : List α) (m : Nat) (hm : m ≤ l.length) (h1 : ∀ j (hj : j < l.length), m ≤ j → lt x l[j] = true)
    (h2 : ∀ h0 : 0 < m, lt x (l[m - 1]'(by omega)) = false) : cut lt x l = m := by
  rcases Nat.lt_trichotomy (cut lt x l) m with h | h | h
  · have a := cut_after lt x l (m - 1) (by omega) (by omega)
    rw [h2 (by omega)] at a
    cases a
  · exact h
  · have a := cut_before lt x l (by omega)
    have b := h1 (cut lt x l - 1) (by have := cut_le lt x l; omega) (by omega)
    rw [b] at a
    cases a

def ins {α : Type} (lt : α → α → Bool) (x : α) (l : List α) : List α := l.take (cut lt x l) ++ x :: l.drop (cut lt x l)
theorem ins_perm {α : Type} (lt : α → α → Bool) (x : α) (l : List α) : (ins lt x l).Perm (l ++ [x]) := by
  unfold ins
  have h : (l.take (cut lt x l) ++ x :: l.drop (cut lt x l)).Perm (x :: (l.take (cut lt x l) ++ l.drop (cut lt x l))) := List.perm_middle
  rw [List.take_append_drop] at h
  exact h.trans (List.perm_append_singleton x l).symm
theorem ins_sorted {α : Type} {lt : α → α → Bool} (ho : Ord lt) (x : α) (l : List α) (h : Sorted lt l) : Sorted lt (ins lt x l) := by
  unfold ins
  have key : ∀ (m : Nat) (hl : m ≤ l.length), (∀ (j : Nat) (hj : j < l.length), m ≤ j → lt x l[j] = true) → (∀ h0 : 0 < m, lt x (l[m - 1]'(by omega)) = false) → Sorted lt (l.take m ++ x :: l.drop m) := ?_
  · exact key _ (cut_le lt x l) (cut_after lt x l) (cut_before lt x l)
  intro m hl ha hb
  have hs : Sorted lt (l.take m ++ l.drop m) := by rw [List.take_append_drop]; exact h
  unfold Sorted at hs ⊢
  rw [List.pairwise_append] at hs ⊢
  obtain ⟨h1, h2, h3⟩ := hs
  have hpre : ∀ a, a ∈ l.take m → lt x a = false := by
    intro a hm
    obtain ⟨i, hi, rfl⟩ := List.getElem_of_mem hm
    rw [List.length_take] at hi
    have hi' : i < m := by omega
    rw [List.getElem_take]
    have e := hb (by omega)
    by_cases c : i = m - 1
    · subst c; exact e
    · have := List.pairwise_iff_getElem.1 h i (m - 1) (by omega) (by omega) (by omega)
      exact ho.ntrans _ _ _ e this
  refine ⟨h1, List.pairwise_cons.2 ⟨fun b hm => ?_, h2⟩, fun a hma b hmb => ?_⟩
  · obtain ⟨i, hi, rfl⟩ := List.getElem_of_mem hm
    rw [List.getElem_drop]
    exact ho.asymm _ _ (ha (m + i) (by rw [List.length_drop] at hi; omega) (by omega))
  · rcases List.mem_cons.1 hmb with rfl | hmb
    · exact hpre a hma
    · exact h3 a hma b hmb

def insAll {α : Type} (lt : α → α → Bool) : List α → List α → List α
  | acc, [] => acc
  | acc, x :: l => insAll lt (ins lt x acc) l
theorem insAll_perm {α : Type} (lt : α → α → Bool) : ∀ (l acc : List α), (insAll lt acc l).Perm (acc ++ l)
  | [], acc => by simp [insAll]
  | x :: l, acc => by
    unfold insAll
    refine (insAll_perm lt l _).trans ?_
    have := List.Perm.append_right l (ins_perm lt x acc)
    simpa using this
theorem insAll_sorted {α : Type} {lt : α → α → Bool} (ho : Ord lt) : ∀ (l acc : List α), Sorted lt acc → Sorted lt (insAll lt acc l)
  | [], _, h => h
  | x :: l, acc, h => insAll_sorted ho l _ (ins_sorted ho x acc h)
def sort {α : Type} (lt : α → α → Bool) (l : List α) : List α := insAll lt [] l
theorem sort_perm {α : Type} (lt : α → α → Bool) (l : List α) : (sort lt l).Perm l := by simpa [sort] using insAll_perm lt l []
theorem sort_sorted {α : Type} {lt : α → α → Bool} (ho : Ord lt) (l : List α) : Sorted lt (sort lt l) := insAll_sorted ho l [] List.Pairwise.nil
theorem sort_length {α : Type} (lt : α → α → Bool) (l : List α) : (sort lt l).length = l.length := (sort_perm lt l).length_eq

/-- The sorted list of a list with last things behind it. -/
theorem sort_pad {α : Type} {lt : α → α → Bool} (ho : Ord lt) (l : List α) (e : α) (m : Nat) (he : ∀ x, x ∈ l → lt e x = false) :
    Sorted lt (sort lt l ++ List.replicate m e) := by
  unfold Sorted
  rw [List.pairwise_append]
  refine ⟨sort_sorted ho l, ?_, fun a ha b hb => ?_⟩
  · rw [List.pairwise_replicate]; exact .inr (ho.irrefl e)
  · rw [(List.mem_replicate.1 hb).2]
    exact he a ((sort_perm lt l).mem_iff.1 ha)

/-! ### a net over a list -/
/-- One wire: the one that precedes goes to the first place. -/
def swp {α : Type} (lt : α → α → Bool) (z : α) (w : Nat × Nat) (l : List α) : List α :=
  if lt (l.getD w.2 z) (l.getD w.1 z) then (l.set w.1 (l.getD w.2 z)).set w.2 (l.getD w.1 z) else l
def runs {α : Type} (lt : α → α → Bool) (z : α) : List (Nat × Nat) → List α → List α
  | [], l => l
  | w :: ws, l => runs lt z ws (swp lt z w l)
theorem swp_length {α : Type} (lt : α → α → Bool) (z : α) (w : Nat × Nat) (l : List α) : (swp lt z w l).length = l.length := by unfold swp; split <;> simp
theorem runs_length {α : Type} (lt : α → α → Bool) (z : α) : ∀ (ws : List (Nat × Nat)) (l : List α), (runs lt z ws l).length = l.length
  | [], l => rfl
  | w :: ws, l => by unfold runs; rw [runs_length lt z ws, swp_length]
theorem getD_set' {α : Type} (l : List α) (i j : Nat) (v z : α) (h : i < l.length) : (l.set i v).getD j z = if j = i then v else l.getD j z := by
  rw [List.getD_eq_getElem?_getD, List.getD_eq_getElem?_getD, List.getElem?_set]
  by_cases e : i = j
  · subst e; simp [h]
  · have e' : ¬ j = i := fun x => e x.symm
    simp [e, e']
theorem swp_at {α : Type} (lt : α → α → Bool) (z : α) (w : Nat × Nat) (l : List α) (h1 : w.1 < l.length) (h2 : w.2 < l.length) (i : Nat) :
    (swp lt z w l).getD i z = if lt (l.getD w.2 z) (l.getD w.1 z) then (if i = w.2 then l.getD w.1 z else if i = w.1 then l.getD w.2 z else l.getD i z) else l.getD i z := by
  unfold swp
  split
  · rw [getD_set' _ _ _ _ _ (by simpa using h2), getD_set' _ _ _ _ _ h1]
  · rfl
theorem swp_cx {α : Type} (lt : α → α → Bool) (z : α) (w : Nat × Nat) (l : List α) (h1 : w.1 < l.length) (h2 : w.2 < l.length) (hne : w.1 ≠ w.2) (f : Nat → α) (hf : ∀ i, i < l.length → l.getD i z = f i) :
    ∀ i, i < l.length → (swp lt z w l).getD i z = cx lt w f i := by
  intro i hi
  rw [swp_at lt z w l h1 h2, cx_at, hf _ h1, hf _ h2, hf _ hi]
  split
  · by_cases a : i = w.2
    · subst a
      rw [if_pos rfl, if_neg (fun e => hne e.symm), if_pos rfl]
    · rw [if_neg a]
      by_cases b : i = w.1
      · rw [if_pos b, if_pos b]
      · rw [if_neg b, if_neg b, if_neg a]
  · rfl
theorem runs_run {α : Type} (lt : α → α → Bool) (z : α) (n : Nat) : ∀ (ws : List (Nat × Nat)) (l : List α) (f : Nat → α), l.length = n → (∀ w, w ∈ ws → w.1 < n ∧ w.2 < n ∧ w.1 ≠ w.2) → (∀ i, i < n → l.getD i z = f i) →
    ∀ i, i < n → (runs lt z ws l).getD i z = run lt ws f i
  | [], l, f, _, _, h => h
  | w :: ws, l, f, hl, hw, h => by
    obtain ⟨a, b, c⟩ := hw w (by simp)
    have := swp_cx lt z w l (by omega) (by omega) c f (fun i hi => h i (by omega))
    exact runs_run lt z n ws _ _ (by rw [swp_length]; exact hl) (fun v hv => hw v (by simp [hv])) (fun i hi => this i (by omega))
theorem swap_perm {α : Type} (z : α) (l : List α) (i j : Nat) (hi : i < l.length) (hj : j < l.length) : ((l.set i (l.getD j z)).set j (l.getD i z)).Perm l := by
  have e1 : l.getD i z = l[i] := by simp [hi]
  have e2 : l.getD j z = l[j] := by simp [hj]
  rw [e1, e2]
  exact List.set_set_perm hi hj
theorem swp_perm {α : Type} (lt : α → α → Bool) (z : α) (w : Nat × Nat) (l : List α) (h1 : w.1 < l.length) (h2 : w.2 < l.length) : (swp lt z w l).Perm l := by
  unfold swp
  split
  · exact swap_perm z l w.1 w.2 h1 h2
  · exact List.Perm.refl l
theorem runs_perm {α : Type} (lt : α → α → Bool) (z : α) : ∀ (ws : List (Nat × Nat)) (l : List α), (∀ w, w ∈ ws → w.1 < l.length ∧ w.2 < l.length) → (runs lt z ws l).Perm l
  | [], l, _ => List.Perm.refl l
  | w :: ws, l, h => by
    have hh := h w (by simp)
    unfold runs
    refine (runs_perm lt z ws _ (fun v hv => by rw [swp_length]; exact h v (by simp [hv]))).trans (swp_perm lt z w l hh.1 hh.2)
/-- A net that sorts all states of two values sorts a list. -/
theorem runs_sorted {α : Type} {lt : α → α → Bool} (ho : Ord lt) (z : α) (ws : List (Nat × Nat)) (l : List α) (hw : ∀ w, w ∈ ws → w.1 < l.length ∧ w.2 < l.length ∧ w.1 ≠ w.2)
    (hs : ∀ g : Nat → Bool, Srt ltB l.length (run ltB ws g)) : Sorted lt (runs lt z ws l) := by
  have h1 := zero_one ho l.length ws hs (fun i => l.getD i z)
  have h2 := runs_run lt z l.length ws l (fun i => l.getD i z) rfl hw (fun _ _ => rfl)
  have step : ∀ i, i + 1 < l.length → lt ((runs lt z ws l).getD (i + 1) z) ((runs lt z ws l).getD i z) = false := by
    intro i hi
    rw [h2 _ hi, h2 _ (by omega)]
    exact h1 i hi
  have hlen := runs_length lt z ws l
  generalize runs lt z ws l = r at step hlen
  have far : ∀ d i, i + d + 1 < l.length → lt (r.getD (i + d + 1) z) (r.getD i z) = false := by
    intro d
    induction d with
    | zero => intro i hi; exact step i hi
    | succ d ih => intro i hi; exact ho.ntrans _ _ _ (step (i + d + 1) hi) (ih i (by omega))
  unfold Sorted
  rw [List.pairwise_iff_getElem]
  intro i j hi hj hij
  have := far (j - i - 1) i (by omega)
  rw [show i + (j - i - 1) + 1 = j from by omega] at this
  simpa [hi, hj] using this
/-- The net over the list with last things behind it, cut: the sorted list. -/
theorem net_sort {α : Type} {lt : α → α → Bool} (ho : Ord lt) (z e : α) (ws : List (Nat × Nat)) (l : List α) (m : Nat) (hw : ∀ w, w ∈ ws → w.1 < l.length + m ∧ w.2 < l.length + m ∧ w.1 ≠ w.2)
    (hs : ∀ g : Nat → Bool, Srt ltB (l.length + m) (run ltB ws g)) (he : ∀ x, x ∈ l → lt e x = false)
    (tri : ∀ x y, x ∈ l ++ List.replicate m e → y ∈ l ++ List.replicate m e → lt x y = false → lt y x = false → x = y) :
    runs lt z ws (l ++ List.replicate m e) = sort lt l ++ List.replicate m e := by
  have hl : (l ++ List.replicate m e).length = l.length + m := by simp
  have hp := runs_perm lt z ws (l ++ List.replicate m e) (fun w h => by rw [hl]; exact ⟨(hw w h).1, (hw w h).2.1⟩)
  refine sorted_unique (lt := lt) (hp.trans (List.Perm.append_right _ (sort_perm lt l).symm)) (runs_sorted ho z ws _ (by rw [hl]; exact hw) (by rw [hl]; exact hs)) (sort_pad ho l e m he) ?_
  intro x y hx hy
  exact tri x y (hp.mem_iff.1 hx) (hp.mem_iff.1 hy)
/-- Of two lists with the same things, sorted alike. -/
theorem sort_congr {α : Type} {lt : α → α → Bool} (ho : Ord lt) {l1 l2 : List α} (hp : l1.Perm l2) (tri : ∀ x y, x ∈ l1 → y ∈ l1 → lt x y = false → lt y x = false → x = y) : sort lt l1 = sort lt l2 :=
  sorted_unique (lt := lt) ((sort_perm lt l1).trans (hp.trans (sort_perm lt l2).symm)) (sort_sorted ho l1) (sort_sorted ho l2)
    (fun x y hx hy => tri x y ((sort_perm lt l1).mem_iff.1 hx) ((sort_perm lt l1).mem_iff.1 hy))
end RankMath
