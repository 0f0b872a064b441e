/- the plain law of FnExactStashDrop: dropping a block from a stash -/
import Derived.Test.YtggfndobfpmoaaaOpenFnExactStashDrop
namespace Go.Proofs.Ytggfndobfpmoaaa.Pure
open Go.RowKit Go.Proofs.Ytggfndobfpmoaaa.OpenFnExactStashDrop Go.Proofs.Ytggfndobfpmoaaa.RowOpen Go.Proofs.Ytggfndobfpmoaaa.PFnExactStashDrop Go.Proofs.YtggfndobfpmoaaaW.PrintWords Go.Proofs.YtggfndobfpmoaaaW.PrintLast Go.Proofs.YtggfndobfpmoaaaW.PrintMore
set_option linter.unusedVariables false
set_option linter.unusedSimpArgs false

theorem take_set_ByteS (x l : List Int) (i : Nat) (hi : i < l.length) (hx : x.length = l.length) (h : x.take i = l.take i) : (x.set i (rd l (i : Int))).take (i + 1) = l.take (i + 1) := by
  have hr : rd l (i : Int) = l[i] := by simp [rd, hi]
  rw [hr, List.take_add_one, List.take_add_one, List.take_set_of_le (Nat.le_refl _), h]
  simp [hi, hx]
theorem toByteS_l0 (l : List Int) (hl : l.length ≤ 1048576) : ∀ (d k i : Nat) (x : List Int), x.length = l.length → i ≤ l.length → l.length - i = d → d < k → x.take i = l.take i → laws_toByteS.l0 k l x (i : Int) = some l := by
  intro d
  induction d with
  | zero =>
    intro k i x hx hi hd hk h
    obtain ⟨k, rfl⟩ : ∃ m, k = m + 1 := ⟨k - 1, by omega⟩
    simp only [laws_toByteS.l0]
    rw [if_neg (by omega)]
    rw [List.take_of_length_le (by omega), List.take_of_length_le (by omega)] at h
    rw [h]
  | succ d ih =>
    intro k i x hx hi hd hk h
    obtain ⟨k, rfl⟩ : ∃ m, k = m + 1 := ⟨k - 1, by omega⟩
    simp only [laws_toByteS.l0]
    rw [if_pos (by omega), if_pos (by omega), if_pos (by omega), show wrap64 ((i : Int) + 1) = ((i + 1 : Nat) : Int) from by unfold wrap64; omega, Int.toNat_natCast]
    exact ih k (i + 1) _ (by simp [hx]) (by omega) (by omega) (by omega) (take_set_ByteS x l i (by omega) hx h)
theorem toByteS_eq (l : List Int) (hl : l.length ≤ 1048576) (k : Nat) (hk : l.length < k) : laws_toByteS.f k l = some l := by
  unfold laws_toByteS.f
  rw [if_pos (by omega), if_pos (by omega)]
  exact toByteS_l0 l hl l.length k 0 _ (by simp) (by omega) (by omega) hk rfl
theorem eqByteS_l0 (a : List Int) (ha : a.length ≤ 1048576) : ∀ (d k i : Nat), i ≤ a.length → a.length - i = d → d < k → laws_eqByteS.l0 k a a (i : Int) = some true := by
  intro d
  induction d with
  | zero =>
    intro k i hi hd hk
    obtain ⟨k, rfl⟩ : ∃ m, k = m + 1 := ⟨k - 1, by omega⟩
    simp only [laws_eqByteS.l0]
    rw [if_neg (by omega)]
  | succ d ih =>
    intro k i hi hd hk
    obtain ⟨k, rfl⟩ : ∃ m, k = m + 1 := ⟨k - 1, by omega⟩
    simp only [laws_eqByteS.l0]
    rw [if_pos (by omega), if_pos (by omega), if_pos (by omega), if_pos trivial, show wrap64 ((i : Int) + 1) = ((i + 1 : Nat) : Int) from by unfold wrap64; omega]
    exact ih k (i + 1) (by omega) (by omega) (by omega)
theorem eqByteS_eq (a : List Int) (ha : a.length ≤ 1048576) (k : Nat) (hk : a.length < k) : laws_eqByteS.f k a a = some true := by
  unfold laws_eqByteS.f
  rw [if_pos rfl]
  exact eqByteS_l0 a ha a.length k 0 (by omega) (by omega) hk
def cv (x : S72) : S26 := ⟨x.f0, x.f1, x.f2⟩
def dat (l : List S72) : Nat := (l.map fun x => x.f2.length).sum
theorem dat_cons (x : S72) (l : List S72) : dat (x :: l) = x.f2.length + dat l := by simp [dat]
theorem dat_mem : ∀ (l : List S72) (i : Nat) (h : i < l.length), (l[i]).f2.length ≤ dat l
  | x :: l, 0, _ => by rw [dat_cons]; simp
  | x :: l, i + 1, h => by
    rw [dat_cons]
    have := dat_mem l i (by simpa using h)
    simp only [List.getElem_cons_succ]
    omega
theorem rd72 (l : List S72) (i : Nat) (h : i < l.length) : rd_T72 l (i : Int) = l[i] := by simp [rd_T72, h]
theorem rd26 (l : List S26) (i : Nat) (h : i < l.length) : rd_T26 l (i : Int) = l[i] := by simp [rd_T26, h]
theorem wr (i : Nat) (h : i ≤ 2000000) : wrap64 ((i : Int) + 1) = ((i + 1 : Nat) : Int) := by unfold wrap64; omega
theorem szBlock_eq (x : S72) (left : Int) (h0 : 0 ≤ left) (h1 : left ≤ 1048576) (hx : x.f2.length ≤ maxLen) : laws_szBlock.f x.f0 x.f1 x.f2 left = some (if left < (x.f2.length : Int) then -1 else left - (x.f2.length : Int)) := by
  unfold maxLen at hx
  unfold laws_szBlock.f laws_szByteS.f
  rw [show wrap64 (left - (x.f2.length : Int)) = left - (x.f2.length : Int) from by unfold wrap64; omega]
  by_cases c : left < (x.f2.length : Int)
  · rw [if_pos c, if_pos (by omega)]; rfl
  · rw [if_neg c, if_neg (by omega)]
    simp only [Option.bind_some]
    rw [if_neg (by omega)]
theorem szBlockS_l0 (l : List S72) (hl : ∀ y, y ∈ l → y.f2.length ≤ maxLen) (hlen : l.length ≤ 1048576) : ∀ (d k i : Nat) (left : Int), i ≤ l.length → l.length - i = d → d < k → 0 ≤ left → left ≤ 1048576 →
    laws_szBlockS.l0 k l left (i : Int) = some (if left < (dat (l.drop i) : Int) then -1 else left - (dat (l.drop i) : Int)) := by
  intro d
  induction d with
  | zero =>
    intro k i left hi hd hk h0 h1
    obtain ⟨k, rfl⟩ : ∃ m, k = m + 1 := ⟨k - 1, by omega⟩
    simp only [laws_szBlockS.l0]
    rw [if_neg (by omega), List.drop_eq_nil_of_le (by omega)]
    have e : dat [] = 0 := rfl
    rw [e, if_neg (by omega)]
    simp
  | succ d ih =>
    intro k i left hi hd hk h0 h1
    obtain ⟨k, rfl⟩ : ∃ m, k = m + 1 := ⟨k - 1, by omega⟩
    have hlt : i < l.length := by omega
    simp only [laws_szBlockS.l0]
    rw [if_pos (by omega), if_pos (by omega), rd72 l i hlt, szBlock_eq _ left h0 h1 (hl _ (List.getElem_mem hlt)), List.drop_eq_getElem_cons hlt, dat_cons]
    simp only [Option.bind_some]
    by_cases c : left < ((l[i]).f2.length : Int)
    · rw [if_pos c, if_pos (by omega), if_pos (by omega)]
    · rw [if_neg c, if_neg (by omega), wr i (by omega), ih k (i + 1) _ (by omega) (by omega) (by omega) (by omega) (by omega)]
      congr 1
      by_cases c2 : left - ((l[i]).f2.length : Int) < (dat (l.drop (i + 1)) : Int)
      · rw [if_pos c2, if_pos (by omega)]
      · rw [if_neg c2, if_neg (by omega)]; omega
theorem szBlockS_eq (l : List S72) (hl : l.length ≤ maxLen ∧ ∀ y, y ∈ l → ok72 y) (k : Nat) (hk : l.length < k) :
    laws_szBlockS.f k l 1048576 = some (if 1048576 < l.length + dat l then -1 else 1048576 - ((l.length + dat l : Nat) : Int)) := by
  have h1 := hl.1
  unfold maxLen at h1
  unfold laws_szBlockS.f
  rw [show wrap64 (1048576 - (l.length : Int)) = 1048576 - (l.length : Int) from by unfold wrap64; omega]
  by_cases c : 1048576 < l.length
  · rw [if_pos (by omega), if_pos (by omega)]
  · rw [if_neg (by omega)]
    have := szBlockS_l0 l (fun y hy => (hl.2 y hy).2.2.1) (by omega) l.length k 0 (1048576 - (l.length : Int)) (by omega) (by omega) hk (by omega) (by omega)
    rw [List.drop_zero] at this
    rw [show ((0 : Nat) : Int) = 0 from rfl] at this
    rw [this]
    congr 1
    by_cases c2 : 1048576 < l.length + dat l
    · rw [if_pos c2, if_pos (by omega)]
    · rw [if_neg c2, if_neg (by omega)]; omega
theorem toBlock_eq (x : S72) (hx : x.f2.length ≤ 1048576) (k : Nat) (hk : x.f2.length < k) : laws_toBlock.f k x.f0 x.f1 x.f2 = some (x.f0, x.f1, x.f2) := by
  unfold laws_toBlock.f
  rw [toByteS_eq _ hx _ hk]; rfl
theorem eqBlock_eq (x : S26) (hx : x.f2.length ≤ 1048576) (k : Nat) (hk : x.f2.length < k) : laws_eqBlock.f k x.f0 x.f1 x.f2 x.f0 x.f1 x.f2 = some true := by
  unfold laws_eqBlock.f
  rw [if_pos rfl, if_pos rfl, eqByteS_eq _ hx _ hk]; rfl
theorem take_setB (x : List S26) (l : List S72) (i : Nat) (hi : i < l.length) (hx : x.length = l.length) (h : x.take i = (l.map cv).take i) : (x.set i (cv l[i])).take (i + 1) = (l.map cv).take (i + 1) := by
  rw [List.take_add_one, List.take_add_one, List.take_set_of_le (Nat.le_refl _), h]
  simp [hi, hx]
theorem toBlockS_l0 (l : List S72) (hl : l.length + dat l ≤ 1048576) : ∀ (d k i : Nat) (x : List S26), x.length = l.length → i ≤ l.length → l.length - i = d → d + dat l < k → x.take i = (l.map cv).take i →
    laws_toBlockS.l0 k l x (i : Int) = some (l.map cv) := by
  intro d
  induction d with
  | zero =>
    intro k i x hx hi hd hk h
    obtain ⟨k, rfl⟩ : ∃ m, k = m + 1 := ⟨k - 1, by omega⟩
    simp only [laws_toBlockS.l0]
    rw [if_neg (by omega)]
    rw [List.take_of_length_le (by omega), List.take_of_length_le (by simp; omega)] at h
    rw [h]
  | succ d ih =>
    intro k i x hx hi hd hk h
    obtain ⟨k, rfl⟩ : ∃ m, k = m + 1 := ⟨k - 1, by omega⟩
    have hlt : i < l.length := by omega
    have hm := dat_mem l i hlt
    simp only [laws_toBlockS.l0]
    rw [if_pos (by omega), if_pos (by omega), rd72 l i hlt, toBlock_eq _ (by omega) _ (by omega)]
    simp only [Option.bind_some]
    rw [if_pos (by omega), wr i (by omega), Int.toNat_natCast]
    exact ih k (i + 1) _ (by simp [hx]) (by omega) (by omega) (by omega) (take_setB x l i hlt hx h)
theorem toBlockS_eq (l : List S72) (hl : l.length + dat l ≤ 1048576) (k : Nat) (hk : l.length + dat l < k) : laws_toBlockS.f k l = some (l.map cv) := by
  unfold laws_toBlockS.f
  rw [if_pos (by omega), if_pos (by omega)]
  exact toBlockS_l0 l hl l.length k 0 _ (by simp) (by omega) (by omega) hk rfl
theorem eqBlockS_l0 (l : List S72) (hl : l.length + dat l ≤ 1048576) : ∀ (d k i : Nat), i ≤ l.length → l.length - i = d → d + dat l < k → laws_eqBlockS.l0 k (l.map cv) (l.map cv) (i : Int) = some true := by
  intro d
  induction d with
  | zero =>
    intro k i hi hd hk
    obtain ⟨k, rfl⟩ : ∃ m, k = m + 1 := ⟨k - 1, by omega⟩
    simp only [laws_eqBlockS.l0]
    rw [if_neg (by rw [List.length_map]; omega)]
  | succ d ih =>
    intro k i hi hd hk
    obtain ⟨k, rfl⟩ : ∃ m, k = m + 1 := ⟨k - 1, by omega⟩
    have hlt : i < l.length := by omega
    have hm := dat_mem l i hlt
    have hlt' : i < (l.map cv).length := by simpa using hlt
    simp only [laws_eqBlockS.l0]
    have e : (l.map cv)[i] = cv l[i] := by simp
    rw [if_pos (by omega), if_pos (by omega), if_pos (by omega), rd26 _ i hlt', e, eqBlock_eq (cv l[i]) (by show (l[i]).f2.length ≤ _; omega) _ (by show (l[i]).f2.length < _; omega)]
    simp only [Option.bind_some, if_true]
    rw [wr i (by omega)]
    exact ih k (i + 1) (by omega) (by omega) (by omega)
theorem eqBlockS_eq (l : List S72) (hl : l.length + dat l ≤ 1048576) (k : Nat) (hk : l.length + dat l < k) : laws_eqBlockS.f k (l.map cv) (l.map cv) = some true := by
  unfold laws_eqBlockS.f
  rw [if_pos rfl]
  exact eqBlockS_l0 l hl l.length k 0 (by omega) (by omega) hk
def mkB (a : Int) (n : Nat) : List Int := (List.range n).map fun (i : Nat) => (a + (i : Int)) % 256
theorem mkB_length (a : Int) (n : Nat) : (mkB a n).length = n := by simp [mkB]
theorem mkB_step (a : Int) (x : List Int) (n i : Nat) (hi : i < n) (hx : x.length = n) (h : x.take i = (mkB a n).take i) : (x.set i ((a + (i : Int)) % 256)).take (i + 1) = (mkB a n).take (i + 1) := by
  rw [List.take_add_one, List.take_add_one, List.take_set_of_le (Nat.le_refl _), h]
  simp [hi, hx, mkB]
theorem markB_l0 (a : Int) (n : Nat) (hn : n ≤ 1048576) (ha0 : 0 ≤ a) (ha : a ≤ 4194304) : ∀ (d k i : Nat) (x : List Int), x.length = n → i ≤ n → n - i = d → d < k → x.take i = (mkB a n).take i →
    laws_markByteS.l0 k x (a + (i : Int)) (i : Int) = some (a + (n : Int), mkB a n) := by
  intro d
  induction d with
  | zero =>
    intro k i x hx hi hd hk h
    obtain ⟨k, rfl⟩ : ∃ m, k = m + 1 := ⟨k - 1, by omega⟩
    simp only [laws_markByteS.l0]
    rw [if_neg (by omega)]
    rw [List.take_of_length_le (by omega), List.take_of_length_le (by rw [mkB_length]; omega)] at h
    rw [h, show i = n by omega]
  | succ d ih =>
    intro k i x hx hi hd hk h
    obtain ⟨k, rfl⟩ : ∃ m, k = m + 1 := ⟨k - 1, by omega⟩
    simp only [laws_markByteS.l0]
    rw [if_pos (by omega), if_pos (by omega), show wrap64 (a + (i : Int) + 1) = a + ((i + 1 : Nat) : Int) from by unfold wrap64; omega, show wrap64 ((i : Int) + 1) = ((i + 1 : Nat) : Int) from by unfold wrap64; omega, Int.toNat_natCast]
    exact ih k (i + 1) _ (by simp [hx]) (by omega) (by omega) (by omega) (mkB_step a x n i (by omega) hx h)
theorem markB_eq (a : Int) (l : List Int) (hl : l.length ≤ 1048576) (ha0 : 0 ≤ a) (ha : a ≤ 4194304) (k : Nat) (hk : l.length < k) : laws_markByteS.f k l a = some (a + (l.length : Int), mkB a l.length) := by
  unfold laws_markByteS.f
  have := markB_l0 a l.length hl ha0 ha l.length k 0 l rfl (by omega) (by omega) hk rfl
  simpa using this
theorem heldB_l0 (n : Nat) (hn : n ≤ 1048576) : ∀ (d k i : Nat), i ≤ n → n - i = d → d < k → laws_heldByteS.l0 k (mkB 1 n) (1 + (i : Int)) (i : Int) = some (1 + (n : Int)) := by
  intro d
  induction d with
  | zero =>
    intro k i hi hd hk
    obtain ⟨k, rfl⟩ : ∃ m, k = m + 1 := ⟨k - 1, by omega⟩
    simp only [laws_heldByteS.l0]
    rw [if_neg (by rw [mkB_length]; omega), show i = n by omega]
  | succ d ih =>
    intro k i hi hd hk
    obtain ⟨k, rfl⟩ : ∃ m, k = m + 1 := ⟨k - 1, by omega⟩
    simp only [laws_heldByteS.l0]
    have e : rd (mkB 1 n) (i : Int) = (1 + (i : Int)) % 256 := by
      have : i < n := by omega
      simp [rd, mkB, this]
    rw [if_pos (by rw [mkB_length]; omega), if_pos (by omega), if_pos e, show wrap64 (1 + (i : Int) + 1) = 1 + ((i + 1 : Nat) : Int) from by unfold wrap64; omega, show wrap64 ((i : Int) + 1) = ((i + 1 : Nat) : Int) from by unfold wrap64; omega]
    exact ih k (i + 1) (by omega) (by omega) (by omega)
theorem heldB_eq (n : Nat) (hn : n ≤ 1048576) (k : Nat) (hk : n < k) : laws_heldByteS.f k (mkB 1 n) 1 = some (1 + (n : Int)) := by
  unfold laws_heldByteS.f
  have := heldB_l0 n hn n k 0 (by omega) (by omega) hk
  simpa using this
def datI (l : List S26) : Nat := (l.map fun x => x.f2.length).sum
theorem datI_cons (x : S26) (l : List S26) : datI (x :: l) = x.f2.length + datI l := by simp [datI]
theorem rdI_at (p : List S26) (x : S26) (l : List S26) : rd_T26 (p ++ x :: l) (p.length : Int) = x := by simp [rd_T26]
theorem set_at (p : List S26) (x y : S26) (l : List S26) : (p ++ x :: l).set p.length y = (p ++ [y]) ++ l := by simp
def mkBs : Int → List S26 → List S26
  | _, [] => []
  | a, x :: l => ⟨a, a + 1, mkB (a + 2) x.f2.length⟩ :: mkBs (a + 2 + (x.f2.length : Int)) l
theorem markBs_l0 : ∀ (l p : List S26) (a : Int) (k : Nat), p.length + l.length ≤ 1048576 → datI l ≤ 1048576 → 0 ≤ a → a + 2 * (l.length : Int) + (datI l : Int) ≤ 4194304 → l.length + datI l < k →
    laws_markBlockS.l0 k (p ++ l) a (p.length : Int) = some (a + 2 * (l.length : Int) + (datI l : Int), p ++ mkBs a l)
  | [], p, a, k, h1, h2, h3, h4, hk => by
    obtain ⟨k, rfl⟩ : ∃ m, k = m + 1 := ⟨k - 1, by omega⟩
    simp only [laws_markBlockS.l0]
    rw [if_neg (by simp), List.append_nil, mkBs, List.append_nil]
    simp [datI]
  | x :: l, p, a, k, h1, h2, h3, h4, hk => by
    obtain ⟨k, rfl⟩ : ∃ m, k = m + 1 := ⟨k - 1, by omega⟩
    rw [datI_cons] at h2 h4 hk
    rw [List.length_cons] at h1 h4 hk
    simp only [laws_markBlockS.l0]
    rw [if_pos (by rw [List.length_append, List.length_cons]; omega), if_pos (by omega), rdI_at, show wrap64 (a + 1) = a + 1 from by unfold wrap64; omega, show wrap64 (a + 1 + 1) = a + 2 from by unfold wrap64; omega, markB_eq (a + 2) x.f2 (by omega) (by omega) (by omega) k (by omega), Option.bind_some]
    dsimp only
    rw [Int.toNat_natCast, set_at, show wrap64 ((p.length : Int) + 1) = ((p ++ [(⟨a, a + 1, mkB (a + 2) x.f2.length⟩ : S26)]).length : Int) from by rw [List.length_append, List.length_singleton]; unfold wrap64; omega]
    rw [markBs_l0 l _ (a + 2 + (x.f2.length : Int)) k (by rw [List.length_append, List.length_singleton]; omega) (by omega) (by omega) (by omega) (by omega)]
    rw [mkBs, datI_cons, List.length_cons, List.append_assoc]
    refine congrArg some (Prod.ext ?_ rfl)
    show _ = _
    push_cast
    omega
theorem markBs_eq (l : List S26) (hl : l.length + datI l ≤ 1048576) (k : Nat) (hk : l.length + datI l < k) : laws_markBlockS.f k l 1 = some (1 + 2 * (l.length : Int) + (datI l : Int), mkBs 1 l) := by
  have h := markBs_l0 l [] 1 k (by simp; omega) (by omega) (by omega) (by omega) hk
  simpa [laws_markBlockS.f] using h
theorem heldBg_l0 (a : Int) (n : Nat) (hn : n ≤ 1048576) (ha0 : 0 ≤ a) (ha : a ≤ 4194304) : ∀ (d k i : Nat), i ≤ n → n - i = d → d < k → laws_heldByteS.l0 k (mkB a n) (a + (i : Int)) (i : Int) = some (a + (n : Int)) := by
  intro d
  induction d with
  | zero =>
    intro k i hi hd hk
    obtain ⟨k, rfl⟩ : ∃ m, k = m + 1 := ⟨k - 1, by omega⟩
    simp only [laws_heldByteS.l0]
    rw [if_neg (by rw [mkB_length]; omega), show i = n by omega]
  | succ d ih =>
    intro k i hi hd hk
    obtain ⟨k, rfl⟩ : ∃ m, k = m + 1 := ⟨k - 1, by omega⟩
    simp only [laws_heldByteS.l0]
    have e : rd (mkB a n) (i : Int) = (a + (i : Int)) % 256 := by
      have : i < n := by omega
      simp [rd, mkB, this]
    rw [if_pos (by rw [mkB_length]; omega), if_pos (by omega), if_pos e, show wrap64 (a + (i : Int) + 1) = a + ((i + 1 : Nat) : Int) from by unfold wrap64; omega, show wrap64 ((i : Int) + 1) = ((i + 1 : Nat) : Int) from by unfold wrap64; omega]
    exact ih k (i + 1) (by omega) (by omega) (by omega)
theorem heldBg_eq (a : Int) (n : Nat) (hn : n ≤ 1048576) (ha0 : 0 ≤ a) (ha : a ≤ 4194304) (k : Nat) (hk : n < k) : laws_heldByteS.f k (mkB a n) a = some (a + (n : Int)) := by
  unfold laws_heldByteS.f
  have := heldBg_l0 a n hn ha0 ha n k 0 (by omega) (by omega) hk
  simpa using this
theorem heldBs_l0 : ∀ (l p : List S26) (a : Int) (k : Nat), p.length + l.length ≤ 1048576 → datI l ≤ 1048576 → 0 ≤ a → a + 2 * (l.length : Int) + (datI l : Int) ≤ 4194304 → l.length + datI l < k →
    laws_heldBlockS.l0 k (p ++ mkBs a l) a (p.length : Int) = some (a + 2 * (l.length : Int) + (datI l : Int))
  | [], p, a, k, h1, h2, h3, h4, hk => by
    obtain ⟨k, rfl⟩ : ∃ m, k = m + 1 := ⟨k - 1, by omega⟩
    rw [mkBs, List.append_nil]
    simp only [laws_heldBlockS.l0]
    rw [if_neg (by omega)]
    simp [datI]
  | x :: l, p, a, k, h1, h2, h3, h4, hk => by
    obtain ⟨k, rfl⟩ : ∃ m, k = m + 1 := ⟨k - 1, by omega⟩
    rw [datI_cons] at h2 h4 hk
    rw [List.length_cons] at h1 h4 hk
    rw [mkBs]
    simp only [laws_heldBlockS.l0]
    rw [if_pos (by rw [List.length_append, List.length_cons]; omega), if_pos (by omega), rdI_at, show wrap64 (a + 1) = a + 1 from by unfold wrap64; omega, show wrap64 (a + 1 + 1) = a + 2 from by unfold wrap64; omega, if_pos rfl, if_pos rfl]
    dsimp only
    rw [heldBg_eq (a + 2) x.f2.length (by omega) (by omega) (by omega) k (by omega), Option.bind_some, if_neg (by omega), show wrap64 ((p.length : Int) + 1) = ((p ++ [(⟨a, a + 1, mkB (a + 2) x.f2.length⟩ : S26)]).length : Int) from by rw [List.length_append, List.length_singleton]; unfold wrap64; omega]
    rw [show p ++ (⟨a, a + 1, mkB (a + 2) x.f2.length⟩ : S26) :: mkBs (a + 2 + (x.f2.length : Int)) l = (p ++ [(⟨a, a + 1, mkB (a + 2) x.f2.length⟩ : S26)]) ++ mkBs (a + 2 + (x.f2.length : Int)) l from by simp]
    rw [heldBs_l0 l _ (a + 2 + (x.f2.length : Int)) k (by rw [List.length_append, List.length_singleton]; omega) (by omega) (by omega) (by omega) (by omega), datI_cons, List.length_cons]
    refine congrArg some ?_
    push_cast
    omega
theorem heldBs_eq (l : List S26) (hl : l.length + datI l ≤ 1048576) (k : Nat) (hk : l.length + datI l < k) : laws_heldBlockS.f k (mkBs 1 l) 1 = some (1 + 2 * (l.length : Int) + (datI l : Int)) := by
  have h := heldBs_l0 l [] 1 k (by simp; omega) (by omega) (by omega) (by omega) hk
  simpa [laws_heldBlockS.f] using h
theorem data_le (xs : List S26) : ∀ (j : Nat) (h : j < xs.length), xs[j].f2.length ≤ datI xs := by
  induction xs with
  | nil => intro j h; simp at h
  | cons x l ih =>
    intro j h
    rw [datI_cons]
    cases j with
    | zero => simp
    | succ j =>
      have := ih j (by simpa using h)
      simp only [List.getElem_cons_succ]
      omega
theorem eqBlk (x : S26) (hx : x.f2.length ≤ 1048576) (k : Nat) (hk : x.f2.length < k) : laws_eqBlock.f k x.f0 x.f1 x.f2 x.f0 x.f1 x.f2 = some true := by
  unfold laws_eqBlock.f
  rw [if_pos rfl, if_pos rfl, eqByteS_eq _ hx _ hk, Option.bind_some, if_pos rfl]
theorem eqBs_l0 (l : List S26) (hl : l.length + datI l ≤ 1048576) : ∀ (d k i : Nat), i ≤ l.length → l.length - i = d → d + datI l < k → laws_eqBlockS.l0 k l l (i : Int) = some true := by
  intro d
  induction d with
  | zero =>
    intro k i hi hd hk
    obtain ⟨k, rfl⟩ : ∃ m, k = m + 1 := ⟨k - 1, by omega⟩
    simp only [laws_eqBlockS.l0]
    rw [if_neg (by omega)]
  | succ d ih =>
    intro k i hi hd hk
    obtain ⟨k, rfl⟩ : ∃ m, k = m + 1 := ⟨k - 1, by omega⟩
    have hlt : i < l.length := by omega
    have hm := data_le l i hlt
    simp only [laws_eqBlockS.l0]
    rw [if_pos (by omega), if_pos (by omega), if_pos (by omega), rd26 l i hlt, eqBlk l[i] (by omega) _ (by omega), Option.bind_some, if_pos rfl, wr i (by omega)]
    exact ih k (i + 1) (by omega) (by omega) (by omega)
theorem eqBs_eq (l : List S26) (hl : l.length + datI l ≤ 1048576) (k : Nat) (hk : l.length + datI l < k) : laws_eqBlockS.f k l l = some true := by
  unfold laws_eqBlockS.f
  rw [if_pos rfl]
  exact eqBs_l0 l hl l.length k 0 (by omega) (by omega) hk
theorem datI_map (l : List S72) : datI (l.map cv) = dat l := by
  induction l with
  | nil => rfl
  | cons x l ih => rw [List.map_cons, datI_cons, dat_cons, ih]; rfl
def ansL (id : Int) : List S26 → Int × Int × List Int × Bool
  | [] => (0, 0, ([] : List Int), false)
  | x :: l => if x.f0 = id then (x.f0, x.f1, x.f2, true) else ansL id l
def ans (xs : List S26) (id : Int) : Int × Int × List Int × Bool := if xs.length ≤ 128 then ansL id xs else (0, 0, ([] : List Int), false)
theorem idx_ans (id : Int) : ∀ (l : List S26) (i : Nat), (idxId id l i = -1 ∧ ansL id l = (0, 0, ([] : List Int), false)) ∨ ∃ (j : Nat) (h : j < l.length), idxId id l i = ((i + j : Nat) : Int) ∧ ansL id l = (l[j].f0, l[j].f1, l[j].f2, true)
  | [], i => .inl ⟨rfl, rfl⟩
  | x :: l, i => by
    rw [idxId, ansL]
    by_cases c : x.f0 = id
    · rw [if_pos c, if_pos c]
      exact .inr ⟨0, by simp, rfl, rfl⟩
    · rw [if_neg c, if_neg c]
      rcases idx_ans id l (i + 1) with h | ⟨j, h, h1, h2⟩
      · exact .inl h
      · exact .inr ⟨j + 1, by simp; omega, by rw [h1]; congr 1; omega, h2⟩
theorem one_cut (xs : List S26) (j : Nat) (h : j < xs.length) : (xs.take (j + 1)).drop j = [xs[j]] := by
  rw [List.drop_take, List.drop_eq_getElem_cons h, show j + 1 - j = 1 from by omega]; rfl
theorem copy_l0 : ∀ (l p : List S26) (k : Nat), p.length + l.length ≤ 1048576 → datI l ≤ 1048576 → l.length < k → spec_l13Copy.l0 k (p ++ l) p (p.length : Int) = some (p ++ l)
  | [], p, k, h1, h2, hk => by
    obtain ⟨k, rfl⟩ : ∃ m, k = m + 1 := ⟨k - 1, by omega⟩
    simp only [spec_l13Copy.l0]
    rw [if_neg (by simp), List.append_nil]
  | x :: l, p, k, h1, h2, hk => by
    obtain ⟨k, rfl⟩ : ∃ m, k = m + 1 := ⟨k - 1, by omega⟩
    rw [datI_cons] at h2
    rw [List.length_cons] at h1 hk
    simp only [spec_l13Copy.l0]
    rw [if_pos (by rw [List.length_append, List.length_cons]; omega), if_pos (by omega), rdI_at, Option.bind_some, if_pos (by show 0 + _ < _; omega), if_pos (by omega)]
    rw [show wrap64 ((p.length : Int) + 1) = ((p ++ [(⟨x.f0, x.f1, [] ++ x.f2⟩ : S26)]).length : Int) from by rw [List.length_append, List.length_singleton]; unfold wrap64; omega]
    rw [show p ++ x :: l = (p ++ [(⟨x.f0, x.f1, [] ++ x.f2⟩ : S26)]) ++ l from by simp]
    exact copy_l0 l _ k (by rw [List.length_append, List.length_singleton]; omega) (by omega) (by omega)
theorem copy_eq (l : List S26) (h : l.length + datI l ≤ 1048576) (k : Nat) (hk : l.length < k) : spec_l13Copy.f k l = some l := by
  have := copy_l0 l [] k (by simp; omega) (by omega) hk
  simpa [spec_l13Copy.f] using this
def drp (id : Int) (l : List S26) : List S26 := l.filter fun x => !decide (x.f0 = id)
theorem datI_app (a b : List S26) : datI (a ++ b) = datI a + datI b := by simp [datI]
theorem drp_le (id : Int) : ∀ l : List S26, (drp id l).length ≤ l.length ∧ datI (drp id l) ≤ datI l
  | [] => ⟨Nat.le_refl _, Nat.le_refl _⟩
  | x :: l => by
    have ih := drp_le id l
    by_cases c : x.f0 = id
    · have e : drp id (x :: l) = drp id l := by simp [drp, c]
      rw [e, List.length_cons, datI_cons]
      omega
    · have e : drp id (x :: l) = x :: drp id l := by simp [drp, c]
      rw [e, List.length_cons, List.length_cons, datI_cons, datI_cons]
      omega
theorem without_l0 (id : Int) : ∀ (l p q : List S26) (k : Nat), p.length + l.length ≤ 1048576 → q.length ≤ p.length → q.length + l.length + (datI q + datI l) ≤ 1048576 → 2 * l.length + q.length + 1 < k →
    spec_l13Without.l0 k (p ++ l) id q (p.length : Int) = some (q ++ drp id l)
  | [], p, q, k, h1, hq, h2, hk => by
    obtain ⟨k, rfl⟩ : ∃ m, k = m + 1 := ⟨k - 1, by omega⟩
    rw [List.length_nil] at h2 hk
    have e0 : datI [] = 0 := rfl
    rw [e0] at h2
    simp only [spec_l13Without.l0]
    rw [if_neg (by simp), copy_eq q (by omega) k (by omega), Option.bind_some]
    simp [drp]
  | x :: l, p, q, k, h1, hq, h2, hk => by
    obtain ⟨k, rfl⟩ : ∃ m, k = m + 1 := ⟨k - 1, by omega⟩
    rw [datI_cons] at h2
    rw [List.length_cons] at h1 h2 hk
    simp only [spec_l13Without.l0]
    rw [if_pos (by rw [List.length_append, List.length_cons]; omega), if_pos (by omega), rdI_at]
    rw [show wrap64 ((p.length : Int) + 1) = ((p ++ [x]).length : Int) from by rw [List.length_append, List.length_singleton]; unfold wrap64; omega]
    rw [show p ++ x :: l = (p ++ [x]) ++ l from by simp]
    by_cases c : x.f0 = id
    · rw [if_pos c, without_l0 id l (p ++ [x]) q k (by rw [List.length_append, List.length_singleton]; omega) (by rw [List.length_append, List.length_singleton]; omega) (by omega) (by omega)]
      have e : drp id (x :: l) = drp id l := by simp [drp, c]
      rw [e]
    · rw [if_neg c, if_pos (by omega)]
      have hd : datI (q ++ [x]) = datI q + x.f2.length := by rw [datI_app, datI_cons]; rfl
      rw [without_l0 id l (p ++ [x]) (q ++ [x]) k (by rw [List.length_append, List.length_singleton]; omega) (by simp only [List.length_append, List.length_singleton]; omega) (by rw [List.length_append, List.length_singleton, hd]; omega) (by rw [List.length_append, List.length_singleton]; omega)]
      have e : drp id (x :: l) = x :: drp id l := by simp [drp, c]
      rw [e]
      simp
theorem without_eq (id : Int) (l : List S26) (h : l.length + datI l ≤ 1048576) (k : Nat) (hk : 2 * l.length + 1 < k) : spec_l13Without.f k l id = some (drp id l) := by
  have e0 : datI ([] : List S26) = 0 := rfl
  have := without_l0 id l [] [] k (by simp; omega) (Nat.le_refl _) (by rw [e0]; simp; omega) (by simpa using hk)
  simpa [spec_l13Without.f] using this
theorem specFind_l0 (xs : List S26) (hx : xs.length + datI xs ≤ 1048576) (h128 : xs.length ≤ 128) (id : Int) : ∀ (d k i : Nat), xs.length - i = d → i ≤ xs.length → d + 3 < k → spec_StashFind.l0 k xs id (i : Int) = some (ansL id (xs.drop i)) := by
  intro d
  induction d with
  | zero =>
    intro k i hd hi hk
    obtain ⟨k, rfl⟩ : ∃ m, k = m + 1 := ⟨k - 1, by omega⟩
    simp only [spec_StashFind.l0]
    rw [if_neg (by omega), List.drop_eq_nil_of_le (by omega)]; rfl
  | succ d ih =>
    intro k i hd hi hk
    obtain ⟨k, rfl⟩ : ∃ m, k = m + 1 := ⟨k - 1, by omega⟩
    have h : i < xs.length := by omega
    have e : wrap64 ((i : Int) + 1) = ((i + 1 : Nat) : Int) := by unfold wrap64; omega
    have hd := data_le xs i h
    have hdx : datI [xs[i]] = xs[i].f2.length := by rw [datI_cons]; rfl
    simp only [spec_StashFind.l0]
    rw [if_pos (by omega), if_pos (by omega), if_pos (by omega), rd26 xs i h, e, List.drop_eq_getElem_cons h, ansL]
    by_cases c : xs[i].f0 = id
    · rw [if_pos c, if_pos c, if_pos (by omega), if_pos (by omega), Int.toNat_natCast, Int.toNat_natCast, one_cut xs i h, copy_eq [xs[i]] (by rw [hdx, List.length_singleton]; omega) k (by rw [List.length_singleton]; omega), Option.bind_some, if_pos (by simp)]
      rfl
    · rw [if_neg c, if_neg c]
      exact ih k (i + 1) (by omega) (by omega) (by omega)
theorem specFind_eq (xs : List S26) (hx : xs.length + datI xs ≤ 1048576) (id : Int) (k : Nat) (hk : xs.length + 3 < k) : spec_StashFind.f k xs id = some (ans xs id) := by
  unfold spec_StashFind.f ans
  by_cases c : xs.length ≤ 128
  · rw [if_pos c]
    exact specFind_l0 xs hx c id xs.length k 0 (by omega) (by omega) hk
  · rw [if_neg c]
    obtain ⟨k, rfl⟩ : ∃ m, k = m + 1 := ⟨k - 1, by omega⟩
    simp only [spec_StashFind.l0]
    rw [if_pos (by omega), if_neg (by omega)]
/-- What both drop. -/
def dr (xs : List S26) (id : Int) : List S26 × Bool := if xs.length ≤ 128 ∧ 0 ≤ idxId id xs 0 then (drp id xs, true) else ([], false)
theorem dr_le (xs : List S26) (id : Int) : (dr xs id).1.length ≤ xs.length ∧ datI (dr xs id).1 ≤ datI xs := by
  unfold dr
  split
  · exact drp_le id xs
  · exact ⟨Nat.zero_le _, Nat.zero_le _⟩
theorem implDrop_eq (xs : List S26) (hx : xs.length + datI xs ≤ 1048576) (id : Int) : impl_StashDrop.f xs id = some (dr xs id) := by
  unfold impl_StashDrop.f dr
  by_cases c : xs.length ≤ 128
  · rw [if_neg (by omega)]
    by_cases c2 : idxId id xs 0 < 0
    · rw [if_pos c2, if_neg (by omega)]
    · rw [if_neg c2, if_pos ⟨c, by omega⟩]
      unfold impl_cloneBlocks.f
      rw [if_pos ⟨by omega, fun x hx2 => by
        obtain ⟨j, hj, rfl⟩ := List.getElem_of_mem hx2
        have := data_le xs j hj
        omega⟩, Option.bind_some]
      rfl
  · rw [if_pos (by omega), if_neg (by omega)]
theorem specDrop_eq (xs : List S26) (hx : xs.length + datI xs ≤ 1048576) (id : Int) (k : Nat) (hk : 2 * xs.length + 3 < k) : spec_StashDrop.f k xs id = some (dr xs id) := by
  unfold spec_StashDrop.f dr
  rw [specFind_eq xs hx id k (by omega), Option.bind_some]
  unfold ans
  by_cases c : xs.length ≤ 128
  · rw [if_pos c]
    rcases idx_ans id xs 0 with ⟨h1, h2⟩ | ⟨j, h, h1, h2⟩
    · rw [h1, h2, if_neg (by simp), if_neg (by omega)]
    · rw [h1, h2, if_pos rfl, without_eq id xs hx k (by omega), Option.bind_some, if_pos ⟨c, by omega⟩]
  · rw [if_neg c, if_neg (by simp), if_neg (by omega)]
theorem FnExactStashDrop (l0 : (List S72)) (w0 : (l0.length ≤ maxLen ∧ ∀ y, y ∈ l0 → ok72 y)) (a1 : Int) (w1 : (Lit.int .i64 a1).wf = true) : ∃ k, laws_FnExactStashDrop.f k l0 a1 = some true := by
  refine ⟨2 * l0.length + dat l0 + 1000, ?_⟩
  unfold laws_FnExactStashDrop.f
  rw [szBlockS_eq l0 w0 _ (by omega), Option.bind_some]
  by_cases c : 1048576 < l0.length + dat l0
  · rw [if_pos c, if_pos (show (-1 : Int) < 0 by omega)]
  · rw [if_neg c, if_neg (by omega)]
    have hm : (l0.map cv).length = l0.length := List.length_map _
    have hdm := datI_map l0
    generalize hK : 2 * l0.length + dat l0 + 1000 = K
    have hto : laws_toBlockS.f K l0 = some (l0.map cv) := toBlockS_eq l0 (by omega) _ (by omega)
    have hI := implDrop_eq (l0.map cv) (by omega) a1
    have hS := specDrop_eq (l0.map cv) (by omega) a1 K (by omega)
    have hA := dr_le (l0.map cv) a1
    have hE0 := eqBs_eq (l0.map cv) (by omega) K (by omega)
    have hM0 := markBs_eq (l0.map cv) (by omega) K (by omega)
    generalize dr (l0.map cv) a1 = R at hI hS hA
    obtain ⟨F, b⟩ := R
    obtain ⟨hA1, hA2⟩ : F.length ≤ (l0.map cv).length ∧ datI F ≤ datI (l0.map cv) := hA
    have hE := eqBs_eq F (by omega) K (by omega)
    have hM := markBs_eq F (by omega) K (by omega)
    have hH := heldBs_eq F (by omega) K (by omega)
    have hne : ¬ (b != b) = true := by simp
    rw [hto, Option.bind_some, hS, Option.bind_some, Option.bind_some, hI, Option.bind_some]
    dsimp only
    rw [hE, Option.bind_some, if_pos rfl, if_neg hne, Option.bind_some, hE0, Option.bind_some, if_pos rfl, hM0, Option.bind_some]
    dsimp only
    rw [if_neg (by omega), Option.bind_some, if_pos rfl, hM, Option.bind_some]
    dsimp only
    rw [hH, Option.bind_some, if_neg (by omega), if_pos rfl, Option.bind_some, hI, Option.bind_some]
    dsimp only
    rw [hE, Option.bind_some, if_pos rfl, if_neg hne, Option.bind_some, if_neg (by omega), if_pos rfl]

end Go.Proofs.Ytggfndobfpmoaaa.Pure
