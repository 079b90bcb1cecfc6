/-
  Chapter 7, the plain law: a tree's node and its bytes; no program stands here.
-/
import Derived.Test.YtilkcecjciiboaaTallP
import Derived.Test.YtilkcecjciiboaaCodeP
namespace Go.Proofs.Ytilkcecjciiboaa
structure NodeL where
  t : Int
  leaf : Bool
  keys : List Int
  vals : List (List UInt8)
def zeroN : NodeL := ⟨0, false, [], []⟩
def zs (n : Nat) : List UInt8 := List.replicate n 0
theorem zs_len (n : Nat) : (zs n).length = n := List.length_replicate
theorem zs_zero (n : Nat) : zeroB (zs n) = true := by simp [zeroB, zs]
theorem zs_of {l : List UInt8} (h : zeroB l = true) : l = zs l.length := by
  unfold zeroB at h
  apply List.eq_replicate_of_mem
  intro b hb
  simpa using List.all_eq_true.1 h b hb
theorem wm_cases (t : Int) (b : Bool) : widthV t b = 0 ∧ maxV t b = 0 ∨ (widthV t b = 4 ∧ maxV t b = 18 ∨ widthV t b = 8 ∧ maxV t b = 12 ∨ widthV t b = 16 ∧ maxV t b = 9 ∨ widthV t b = 24 ∧ maxV t b = 6) ∧ 1 ≤ t ∧ t ≤ 5 := by
  unfold widthV maxV
  by_cases h : t < 1 ∨ 5 < t
  · rw [if_pos h, if_pos h]; exact .inl ⟨rfl, rfl⟩
  · rw [if_neg h, if_neg h]
    cases b
    · right; exact ⟨.inl ⟨rfl, rfl⟩, by omega, by omega⟩
    · simp only [Bool.true_eq_false, if_false]
      split
      · right; exact ⟨.inr (.inl ⟨rfl, rfl⟩), by omega, by omega⟩
      · split
        · right; exact ⟨.inr (.inr (.inr ⟨rfl, rfl⟩)), by omega, by omega⟩
        · split
          · right; exact ⟨.inr (.inr (.inl ⟨rfl, rfl⟩)), by omega, by omega⟩
          · right; exact ⟨.inl ⟨rfl, rfl⟩, by omega, by omega⟩
/-- why a key may not stand where it does -/
def keyE (keys : List Int) (i : Nat) : Int :=
  if keys.getD i 0 < 0 ∨ 281474976710655 < keys.getD i 0 then 2
  else if 0 < i ∧ keys.getD i 0 ≤ keys.getD (i - 1) 0 then 8 else 0
theorem keyE_zero {keys : List Int} {i : Nat} : keyE keys i = 0 ↔ (0 ≤ keys.getD i 0 ∧ keys.getD i 0 ≤ 281474976710655) ∧ (0 < i → keys.getD (i - 1) 0 < keys.getD i 0) := by
  unfold keyE
  split
  · constructor
    · intro h; cases h
    · intro h; omega
  · split
    · constructor
      · intro h; cases h
      · intro h; omega
    · constructor
      · intro _; omega
      · intro _; rfl
def okAt (n : NodeL) (i : Nat) : Prop := keyE n.keys i = 0 ∧ ((n.vals.getD i []).length : Int) = widthV n.t n.leaf
instance (n : NodeL) (i : Nat) : Decidable (okAt n i) := by unfold okAt; infer_instance
def okN (n : NodeL) : Nat → Bool
  | 0 => true
  | k + 1 => okN n k && decide (okAt n k)
theorem okN_iff (n : NodeL) : ∀ k, okN n k = true ↔ ∀ i, i < k → okAt n i
  | 0 => ⟨fun _ i hi => absurd hi (by omega), fun _ => rfl⟩
  | k + 1 => by
    unfold okN
    rw [Bool.and_eq_true, okN_iff n k, decide_eq_true_iff]
    constructor
    · intro h i hi
      rcases Nat.lt_or_ge i k with h1 | h1
      · exact h.1 i h1
      · obtain rfl : i = k := by omega
        exact h.2
    · intro h
      exact ⟨fun i hi => h i (by omega), h k (by omega)⟩
theorem okN_bad {n : NodeL} {i k : Nat} (h : i < k) (hb : ¬ okAt n i) : okN n k = false := by
  cases h2 : okN n k
  · rfl
  · exact absurd ((okN_iff n k).1 h2 i h) hb
/-- what a node is in whole -/
def wholeN (n : NodeL) : Bool := decide (widthV n.t n.leaf ≠ 0 ∧ n.keys.length ≤ maxV n.t n.leaf ∧ n.vals.length = n.keys.length ∧ (n.leaf = true ∨ 0 < n.keys.length))
def rightN (n : NodeL) : Bool := wholeN n && okN n n.keys.length
theorem wholeN_iff (n : NodeL) : wholeN n = true ↔ widthV n.t n.leaf ≠ 0 ∧ n.keys.length ≤ maxV n.t n.leaf ∧ n.vals.length = n.keys.length ∧ (n.leaf = true ∨ 0 < n.keys.length) := by unfold wholeN; exact decide_eq_true_iff
def wN (n : NodeL) : Nat := (widthV n.t n.leaf).toNat
def mN (n : NodeL) : Nat := maxV n.t n.leaf
def nodeH (n : NodeL) : List UInt8 := leb 1 (if n.leaf = true then 1 else 0) ++ leb 1 n.t.toNat ++ leb 2 n.keys.length ++ leb 2 (wN n) ++ leb 2 (mN n) ++ leb 4 0
def keysB (n : NodeL) (k : Nat) : List UInt8 := (n.keys.take k).flatMap fun x => leb 8 x.toNat
def valsB (n : NodeL) (k : Nat) : List UInt8 := (n.vals.take k).flatten
/-- the bytes with the first k keys and j values -/
def nodeP (n : NodeL) (k j : Nat) : List UInt8 := nodeH n ++ keysB n k ++ zs (8 * (mN n - k)) ++ (valsB n j ++ zs (232 - 8 * mN n - wN n * j))
def nodeB (n : NodeL) : List UInt8 := nodeP n n.keys.length n.keys.length
def putNE (n : NodeL) : Int := if rightN n = true then 0 else 1
def putNV (n : NodeL) : List UInt8 := if rightN n = true then nodeB n else []
theorem nodeH_len (n : NodeL) : (nodeH n).length = 12 := by simp [nodeH, leb_len]
theorem flat_len {α : Type} (f : α → List UInt8) (c : Nat) : ∀ l : List α, (∀ x ∈ l, (f x).length = c) → (l.flatMap f).length = c * l.length
  | [], _ => by simp
  | x :: l, h => by
    rw [List.flatMap_cons, List.length_append, flat_len f c l (fun y hy => h y (List.mem_cons_of_mem _ hy)), h x (List.mem_cons_self ..), List.length_cons, Nat.mul_succ]
    omega
theorem keysB_len (n : NodeL) {k : Nat} (h : k ≤ n.keys.length) : (keysB n k).length = 8 * k := by
  unfold keysB
  rw [flat_len _ 8 _ (fun x _ => leb_len 8 _), List.length_take, Nat.min_eq_left h]
theorem valsB_len (n : NodeL) {k : Nat} (h : k ≤ n.vals.length) (hw : ∀ i, i < k → (n.vals.getD i []).length = wN n) : (valsB n k).length = wN n * k := by
  unfold valsB
  have : (n.vals.take k).flatten = (n.vals.take k).flatMap id := by simp [List.flatMap_id]
  rw [this, flat_len id (wN n) _ (fun x hx => ?_), List.length_take, Nat.min_eq_left h]
  obtain ⟨i, hi, rfl⟩ := List.mem_iff_getElem.1 hx
  rw [List.length_take] at hi
  have := hw i (by omega)
  rw [List.getD_eq_getElem?_getD, List.getElem?_eq_getElem (by omega)] at this
  simpa using this
theorem keysB_next (n : NodeL) {k : Nat} (h : k < n.keys.length) : keysB n (k + 1) = keysB n k ++ leb 8 (n.keys.getD k 0).toNat := by
  unfold keysB
  rw [List.take_add_one, List.getElem?_eq_getElem h, List.flatMap_append, List.getD_eq_getElem?_getD, List.getElem?_eq_getElem h]
  simp
theorem valsB_next (n : NodeL) {k : Nat} (h : k < n.vals.length) : valsB n (k + 1) = valsB n k ++ n.vals.getD k [] := by
  unfold valsB
  rw [List.take_add_one, List.getElem?_eq_getElem h, List.flatten_append, List.getD_eq_getElem?_getD, List.getElem?_eq_getElem h]
  simp
/-- bytes set into zeros -/
theorem splice (a b c : List UInt8) (m o : Nat) (h : b.length ≤ m) (ho : o = a.length) : (a ++ zs m ++ c).take o ++ (b ++ (a ++ zs m ++ c).drop (o + b.length)) = a ++ b ++ zs (m - b.length) ++ c := by
  subst ho
  have hz : zs m = zs b.length ++ zs (m - b.length) := by unfold zs; rw [List.replicate_append_replicate]; congr 1; omega
  rw [List.append_assoc a, List.take_left, ← List.drop_drop, List.drop_left, hz, List.append_assoc (zs b.length), List.drop_left' (zs_len _)]
  simp only [List.append_assoc]
/-- what a node that may be has -/
structure RightN (n : NodeL) : Prop where
  w0 : 4 ≤ wN n
  wi : widthV n.t n.leaf = (wN n : Int)
  m : n.keys.length ≤ mN n
  v : n.vals.length = n.keys.length
  lf : n.leaf = true ∨ 0 < n.keys.length
  ky : ∀ i, i < n.keys.length → keyE n.keys i = 0
  vl : ∀ i, i < n.keys.length → (n.vals.getD i []).length = wN n
  fit : (8 + wN n) * mN n ≤ 232
  tl : 1 ≤ n.t ∧ n.t ≤ 5
  m18 : mN n ≤ 18
  w24 : wN n ≤ 24
theorem rightN_of {n : NodeL} (h : rightN n = true) : RightN n := by
  unfold rightN at h
  rw [Bool.and_eq_true, wholeN_iff, okN_iff] at h
  obtain ⟨⟨h1, h2, h3, h4⟩, h5⟩ := h
  have hc := wm_cases n.t n.leaf
  have hw : widthV n.t n.leaf = (wN n : Int) := by unfold wN; omega
  have hm : maxV n.t n.leaf = mN n := rfl
  rw [hw, hm] at hc
  refine ⟨by omega, hw, by omega, h3, h4, fun i hi => (h5 i hi).1, fun i hi => by have := (h5 i hi).2; omega, ?_, by omega, by omega, by omega⟩
  rcases hc with hc | ⟨hc, _⟩
  · omega
  · rcases hc with hc | hc | hc | hc
    all_goals
      obtain ⟨e1, e2⟩ := hc
      rw [show wN n = _ from Int.ofNat.inj e1, e2]
      decide
theorem rightN_iff (n : NodeL) : rightN n = true ↔ wholeN n = true ∧ ∀ i, i < n.keys.length → okAt n i := by unfold rightN; rw [Bool.and_eq_true, okN_iff]
theorem put_key {n : NodeL} (h : RightN n) {k : Nat} (hk : k < n.keys.length) : (nodeP n k k).take (12 + 8 * k) ++ (leb 8 (n.keys.getD k 0).toNat ++ (nodeP n k k).drop (12 + 8 * k + 8)) = nodeP n (k + 1) k := by
  have hm := h.m
  have e := splice (nodeH n ++ keysB n k) (leb 8 (n.keys.getD k 0).toNat) (valsB n k ++ zs (232 - 8 * mN n - wN n * k)) (8 * (mN n - k)) (12 + 8 * k) (by rw [leb_len]; omega) (by rw [List.length_append, nodeH_len, keysB_len n (by omega)])
  rw [leb_len] at e
  unfold nodeP
  rw [e, keysB_next n hk, show 8 * (mN n - k) - 8 = 8 * (mN n - (k + 1)) by omega]
  simp only [List.append_assoc]
theorem fit_row {n : NodeL} (h : RightN n) {k : Nat} (hk : k ≤ n.keys.length) : 8 * mN n + wN n * k ≤ 232 := by
  have h1 := h.fit
  have h2 := h.m
  rw [Nat.add_mul] at h1
  have : wN n * k ≤ wN n * mN n := Nat.mul_le_mul_left _ (by omega)
  omega
theorem put_val {n : NodeL} (h : RightN n) {k : Nat} (hk : k < n.keys.length) : (nodeP n (k + 1) k).take (12 + 8 * mN n + wN n * k) ++ (n.vals.getD k [] ++ (nodeP n (k + 1) k).drop (12 + 8 * mN n + wN n * k + wN n)) = nodeP n (k + 1) (k + 1) := by
  have hm := h.m
  have hv := h.v
  have hf := fit_row h (k := k + 1) (by omega)
  rw [Nat.mul_succ] at hf
  have hw := h.vl k hk
  have e := splice (nodeH n ++ keysB n (k + 1) ++ zs (8 * (mN n - (k + 1))) ++ valsB n k) (n.vals.getD k []) [] (232 - 8 * mN n - wN n * k) (12 + 8 * mN n + wN n * k) (by rw [hw]; omega) (by
    rw [List.length_append, List.length_append, List.length_append, nodeH_len, keysB_len n (by omega), zs_len, valsB_len n (by omega) (fun i hi => h.vl i (by omega))]
    omega)
  rw [hw, List.append_nil, List.append_nil] at e
  have ep : nodeP n (k + 1) k = nodeH n ++ keysB n (k + 1) ++ zs (8 * (mN n - (k + 1))) ++ valsB n k ++ zs (232 - 8 * mN n - wN n * k) := by unfold nodeP; simp only [List.append_assoc]
  rw [ep, e]
  unfold nodeP
  rw [valsB_next n (by omega), Nat.mul_succ, show 232 - 8 * mN n - (wN n * k + wN n) = 232 - 8 * mN n - wN n * k - wN n by omega]
  simp only [List.append_assoc]
theorem nodeP_len {n : NodeL} (h : RightN n) {k j : Nat} (hk : k ≤ n.keys.length) (hj : j ≤ n.keys.length) : (nodeP n k j).length = 244 := by
  have hm := h.m
  have hv := h.v
  have hf := fit_row h hj
  unfold nodeP
  rw [List.length_append, List.length_append, List.length_append, List.length_append, nodeH_len, keysB_len n hk, zs_len, zs_len, valsB_len n (by omega) (fun i hi => h.vl i (by omega))]
  omega
theorem nodeB_len {n : NodeL} (h : RightN n) : (nodeB n).length = 244 := nodeP_len h (Nat.le_refl _) (Nat.le_refl _)
/-- the bytes at the start: the head, and zeros -/
theorem nodeP_zero {n : NodeL} (h : RightN n) : nodeP n 0 0 = nodeH n ++ zs 232 := by
  have hf := fit_row h (k := 0) (by omega)
  unfold nodeP keysB valsB
  simp only [List.take_zero, List.flatMap_nil, List.flatten_nil, List.append_nil, List.nil_append, Nat.sub_zero, Nat.mul_zero, List.append_assoc]
  unfold zs
  rw [List.replicate_append_replicate]
  congr 2
  omega
/-- bytes read -/
def n0 (b : List UInt8) : Nat := le (b.take 1)
def n1 (b : List UInt8) : Nat := le ((b.drop 1).take 1)
def n2 (b : List UInt8) : Nat := le ((b.drop 2).take 2)
def n3 (b : List UInt8) : Nat := le ((b.drop 4).take 2)
def n4 (b : List UInt8) : Nat := le ((b.drop 6).take 2)
def n5 (b : List UInt8) : Nat := le ((b.drop 8).take 4)
def lfN (b : List UInt8) : Bool := decide (n0 b = 1)
def wB (b : List UInt8) : Nat := (widthV (n1 b) (lfN b)).toNat
def mB (b : List UInt8) : Nat := maxV (n1 b) (lfN b)
def headOk (b : List UInt8) : Bool := decide (b.length = 244 ∧ n0 b ≤ 1 ∧ widthV (n1 b) (lfN b) ≠ 0)
def shapeOk (b : List UInt8) : Bool := decide (headOk b = true ∧ n2 b ≤ mB b ∧ n3 b = wB b ∧ n4 b = mB b ∧ n5 b = 0 ∧ (lfN b = true ∨ 0 < n2 b))
def z1N (b : List UInt8) : List UInt8 := (b.drop (12 + 8 * n2 b)).take (8 * mB b - 8 * n2 b)
def z2N (b : List UInt8) : List UInt8 := b.drop (12 + 8 * mB b + wB b * n2 b)
def formN (b : List UInt8) : Bool := decide (shapeOk b = true ∧ zeroB (z1N b) = true ∧ zeroB (z2N b) = true)
def kN (b : List UInt8) (i : Nat) : Nat := le ((b.drop (12 + 8 * i)).take 8)
def vN (b : List UInt8) (i : Nat) : List UInt8 := (b.drop (12 + 8 * mB b + wB b * i)).take (wB b)
def kE (b : List UInt8) (i : Nat) : Int := if 281474976710655 < kN b i then 2 else if 0 < i ∧ kN b i ≤ kN b (i - 1) then 8 else 0
def errN (b : List UInt8) : Nat → Int
  | 0 => 0
  | k + 1 => if errN b k = 0 then kE b k else errN b k
def readE (b : List UInt8) : Int := if formN b = true then errN b (n2 b) else 7
def keysN (b : List UInt8) (k : Nat) : List Int := (List.range k).map fun i => (kN b i : Int)
def valsN (b : List UInt8) (k : Nat) : List (List UInt8) := (List.range k).map fun i => vN b i
def partN (b : List UInt8) (k : Nat) : NodeL := ⟨n1 b, lfN b, keysN b k, valsN b k⟩
def readV (b : List UInt8) : NodeL := if readE b = 0 then partN b (n2 b) else zeroN
theorem errN_stop {b : List UInt8} {i : Nat} : ∀ k, i < k → errN b i = 0 → kE b i ≠ 0 → errN b k = kE b i
  | 0, h, _, _ => absurd h (by omega)
  | k + 1, h, h0, h1 => by
    unfold errN
    rcases Nat.lt_or_ge i k with h2 | h2
    · rw [errN_stop k h2 h0 h1, if_neg h1]
    · obtain rfl : i = k := by omega
      rw [if_pos h0]
theorem errN_zero {b : List UInt8} : ∀ {k : Nat}, errN b k = 0 → ∀ i, i < k → kE b i = 0
  | 0, _, i, hi => absurd hi (by omega)
  | k + 1, h, i, hi => by
    unfold errN at h
    split at h
    · rename_i h0
      rcases Nat.lt_or_ge i k with h2 | h2
      · exact errN_zero h0 i h2
      · obtain rfl : i = k := by omega
        exact h
    · rename_i h0; exact absurd h h0
theorem errN_all {b : List UInt8} : ∀ {k : Nat}, (∀ i, i < k → kE b i = 0) → errN b k = 0
  | 0, _ => rfl
  | k + 1, h => by
    unfold errN
    rw [if_pos (errN_all fun i hi => h i (by omega))]
    exact h k (by omega)
theorem keysN_len (b : List UInt8) (k : Nat) : (keysN b k).length = k := by simp [keysN]
theorem valsN_len (b : List UInt8) (k : Nat) : (valsN b k).length = k := by simp [valsN]
theorem keysN_next (b : List UInt8) (k : Nat) : keysN b (k + 1) = keysN b k ++ [(kN b k : Int)] := by unfold keysN; rw [List.range_succ, List.map_append]; rfl
theorem valsN_next (b : List UInt8) (k : Nat) : valsN b (k + 1) = valsN b k ++ [vN b k] := by unfold valsN; rw [List.range_succ, List.map_append]; rfl
theorem keysN_at (b : List UInt8) {i k : Nat} (h : i < k) : (keysN b k).getD i 0 = (kN b i : Int) := by
  unfold keysN
  rw [List.getD_eq_getElem?_getD, List.getElem?_map, List.getElem?_range h]; rfl
theorem valsN_at (b : List UInt8) {i k : Nat} (h : i < k) : (valsN b k).getD i [] = vN b i := by
  unfold valsN
  rw [List.getD_eq_getElem?_getD, List.getElem?_map, List.getElem?_range h]; rfl
structure FormN (b : List UInt8) : Prop where
  len : b.length = 244
  f0 : n0 b ≤ 1
  wi : widthV (n1 b) (lfN b) = (wB b : Int)
  w4 : 4 ≤ wB b
  c : n2 b ≤ mB b
  h3 : n3 b = wB b
  h4 : n4 b = mB b
  h5 : n5 b = 0
  lf : lfN b = true ∨ 0 < n2 b
  z1 : zeroB (z1N b) = true
  z2 : zeroB (z2N b) = true
  fit : (8 + wB b) * mB b ≤ 232
  m18 : mB b ≤ 18
  w24 : wB b ≤ 24
theorem head_fit {b : List UInt8} (h : widthV (n1 b) (lfN b) ≠ 0) : widthV (n1 b) (lfN b) = (wB b : Int) ∧ 4 ≤ wB b ∧ (8 + wB b) * mB b ≤ 232 ∧ mB b ≤ 18 ∧ wB b ≤ 24 := by
  have hc := wm_cases (n1 b) (lfN b)
  have hw : widthV (n1 b) (lfN b) = (wB b : Int) := by unfold wB; omega
  have hm : maxV (n1 b) (lfN b) = mB b := rfl
  rw [hw, hm] at hc
  refine ⟨hw, by omega, ?_, by omega, by omega⟩
  rcases hc with hc | ⟨hc, _⟩
  · omega
  · rcases hc with hc | hc | hc | hc
    all_goals
      obtain ⟨e1, e2⟩ := hc
      rw [show wB b = _ from Int.ofNat.inj e1, e2]
      decide
theorem formN_of {b : List UInt8} (h : formN b = true) : FormN b := by
  unfold formN shapeOk headOk at h
  rw [decide_eq_true_iff, decide_eq_true_iff, decide_eq_true_iff] at h
  obtain ⟨⟨⟨h1, h2, h3⟩, h4, h5, h6, h7, h8⟩, h9, h10⟩ := h
  obtain ⟨g1, g2, g3, g4, g5⟩ := head_fit h3
  exact ⟨h1, h2, g1, g2, h4, h5, h6, h7, h8, h9, h10, g3, g4, g5⟩
theorem take_parts (c : Nat) (l : List UInt8) : ∀ n, c * n ≤ l.length → ((List.range n).flatMap fun i => (l.drop (c * i)).take c) = l.take (c * n)
  | 0, _ => by simp
  | n + 1, h => by
    rw [Nat.mul_succ] at h
    rw [List.range_succ, List.flatMap_append, take_parts c l n (by omega), Nat.mul_succ, List.take_add]
    simp
theorem leb_part (l : List UInt8) (a k : Nat) (h : a + k ≤ l.length) : leb k (le ((l.drop a).take k)) = (l.drop a).take k := by
  have := leb_le ((l.drop a).take k)
  rw [List.length_take, List.length_drop, Nat.min_eq_left (by omega)] at this
  exact this
theorem drop_part (l : List UInt8) (a k : Nat) : (l.drop a).take k ++ l.drop (a + k) = l.drop a := by rw [← List.drop_drop, List.take_append_drop]
/-- what was read is put to the same bytes -/
theorem put_read {b : List UInt8} (h : readE b = 0) : rightN (readV b) = true ∧ nodeB (readV b) = b := by
  have hV : readV b = partN b (n2 b) := by unfold readV; rw [if_pos h]
  unfold readE at h
  split at h
  case isFalse => cases h
  rename_i hform
  have hf := formN_of hform
  have hk := errN_zero h
  obtain ⟨c, hc⟩ : ∃ c, c = n2 b := ⟨_, rfl⟩
  have hvl : ∀ i, i < n2 b → (vN b i).length = wB b := fun i hi => by
    unfold vN
    rw [List.length_take, List.length_drop, hf.len]
    have h1 := hf.fit
    rw [Nat.add_mul] at h1
    have : wB b * (i + 1) ≤ wB b * mB b := Nat.mul_le_mul_left _ (by have := hf.c; omega)
    rw [Nat.mul_succ] at this
    omega
  have hkk : (partN b (n2 b)).keys.length = n2 b := keysN_len b _
  have hR : rightN (partN b (n2 b)) = true := by
    rw [rightN_iff, wholeN_iff, hkk]
    refine ⟨⟨?_, hf.c, valsN_len b _, hf.lf⟩, fun i hi => ⟨?_, ?_⟩⟩
    · show widthV (n1 b) (lfN b) ≠ 0
      rw [hf.wi]; have := hf.w4; omega
    · rw [keyE_zero]
      have := hk i hi
      unfold kE at this
      rw [show (partN b (n2 b)).keys = keysN b (n2 b) from rfl, keysN_at b hi]
      split at this
      · cases this
      · split at this
        · cases this
        · refine ⟨by omega, fun h0 => ?_⟩
          rw [keysN_at b (by omega)]
          omega
    · show (((valsN b (n2 b)).getD i []).length : Int) = widthV (n1 b) (lfN b)
      rw [valsN_at b hi, hvl i hi, hf.wi]
  rw [hV]
  refine ⟨hR, ?_⟩
  unfold nodeB nodeP
  rw [hkk]
  have hw : wN (partN b (n2 b)) = wB b := rfl
  have hm : mN (partN b (n2 b)) = mB b := rfl
  rw [hw, hm]
  have hfit : 8 * mB b + wB b * n2 b ≤ 232 := by
    have h1 := hf.fit
    rw [Nat.add_mul] at h1
    have : wB b * n2 b ≤ wB b * mB b := Nat.mul_le_mul_left _ hf.c
    omega
  have hcm := hf.c
  have hH : nodeH (partN b (n2 b)) = b.take 12 := by
    unfold nodeH
    rw [hkk, hw, hm]
    have e0 : leb 1 (if (partN b (n2 b)).leaf = true then 1 else 0) = b.take 1 := by
      have e : (if (partN b (n2 b)).leaf = true then 1 else 0) = n0 b := by
        show (if lfN b = true then 1 else 0) = n0 b
        have := hf.f0
        unfold lfN
        by_cases h1 : n0 b = 1
        · rw [if_pos (by simp [h1]), h1]
        · rw [if_neg (by simp [h1])]; omega
      rw [e]
      have := leb_part b 0 1 (by rw [hf.len]; omega)
      rw [List.drop_zero] at this
      exact this
    have e1 : leb 1 (partN b (n2 b)).t.toNat = (b.drop 1).take 1 := by
      show leb 1 ((n1 b : Int)).toNat = _
      rw [Int.toNat_natCast]
      exact leb_part b 1 1 (by rw [hf.len]; omega)
    have e2 : leb 2 (n2 b) = (b.drop 2).take 2 := leb_part b 2 2 (by rw [hf.len]; omega)
    have e3 : leb 2 (wB b) = (b.drop 4).take 2 := by rw [← hf.h3]; exact leb_part b 4 2 (by rw [hf.len]; omega)
    have e4 : leb 2 (mB b) = (b.drop 6).take 2 := by rw [← hf.h4]; exact leb_part b 6 2 (by rw [hf.len]; omega)
    have e5 : leb 4 0 = (b.drop 8).take 4 := by rw [← hf.h5]; exact leb_part b 8 4 (by rw [hf.len]; omega)
    rw [e0, e1, e2, e3, e4, e5, show (12 : Nat) = 1 + 1 + 2 + 2 + 2 + 4 from rfl, List.take_add, List.take_add, List.take_add, List.take_add, List.take_add]
  have hK : keysB (partN b (n2 b)) (n2 b) = (b.drop 12).take (8 * n2 b) := by
    unfold keysB
    rw [show (partN b (n2 b)).keys = keysN b (n2 b) from rfl, List.take_of_length_le (by rw [keysN_len]; exact Nat.le_refl _)]
    unfold keysN
    rw [List.flatMap_map, ← take_parts 8 (b.drop 12) (n2 b) (by rw [List.length_drop, hf.len]; omega)]
    rw [List.flatMap_def, List.flatMap_def]
    congr 1
    apply List.map_congr_left
    intro i hi
    have hi := List.mem_range.1 hi
    rw [Int.toNat_natCast, List.drop_drop]
    exact leb_part b (12 + 8 * i) 8 (by rw [hf.len]; omega)
  have hVV : valsB (partN b (n2 b)) (n2 b) = (b.drop (12 + 8 * mB b)).take (wB b * n2 b) := by
    unfold valsB
    rw [show (partN b (n2 b)).vals = valsN b (n2 b) from rfl, List.take_of_length_le (by rw [valsN_len]; exact Nat.le_refl _)]
    unfold valsN
    rw [← List.flatMap_def, ← take_parts (wB b) (b.drop (12 + 8 * mB b)) (n2 b) (by rw [List.length_drop, hf.len]; omega)]
    rw [List.flatMap_def, List.flatMap_def]
    congr 1
    apply List.map_congr_left
    intro i _
    rw [List.drop_drop]
    rfl
  have hZ1 : zs (8 * (mB b - n2 b)) = (b.drop (12 + 8 * n2 b)).take (8 * (mB b - n2 b)) := by
    have := zs_of hf.z1
    have hl : (z1N b).length = 8 * (mB b - n2 b) := by unfold z1N; rw [List.length_take, List.length_drop, hf.len]; omega
    rw [hl] at this
    rw [← this]
    unfold z1N
    congr 1
    omega
  have hZ2 : zs (232 - 8 * mB b - wB b * n2 b) = b.drop (12 + 8 * mB b + wB b * n2 b) := by
    have := zs_of hf.z2
    have hl : (z2N b).length = 232 - 8 * mB b - wB b * n2 b := by unfold z2N; rw [List.length_drop, hf.len]; omega
    rw [hl] at this
    rw [← this]
    rfl
  rw [hH, hK, hVV, hZ1, hZ2, drop_part, List.append_assoc, List.append_assoc, show 12 + 8 * mB b = 12 + 8 * n2 b + 8 * (mB b - n2 b) by omega, drop_part, drop_part, List.take_append_drop]
theorem part_at (a b c : List UInt8) : (a ++ b ++ c).drop a.length = b ++ c := by rw [List.append_assoc, List.drop_left]
theorem flat_at {α : Type} (f : α → List UInt8) (c : Nat) (tl : List UInt8) : ∀ (l : List α), (∀ x ∈ l, (f x).length = c) → ∀ (i : Nat) (x : α), l[i]? = some x → ((l.flatMap f ++ tl).drop (c * i)).take c = f x
  | [], _, i, x, h => by simp at h
  | y :: l, hf, 0, x, h => by
    simp at h
    subst h
    rw [Nat.mul_zero, List.drop_zero, List.flatMap_cons, List.append_assoc]
    rw [List.take_left' (hf y (List.mem_cons_self ..))]
  | y :: l, hf, i + 1, x, h => by
    simp at h
    have hy := hf y (List.mem_cons_self ..)
    rw [List.flatMap_cons, List.append_assoc, Nat.mul_succ, Nat.add_comm (c * i) c, ← List.drop_drop, List.drop_left' hy]
    exact flat_at f c tl l (fun z hz => hf z (List.mem_cons_of_mem _ hz)) i x h
/-- what was put is read -/
theorem read_put {n : NodeL} (h : rightN n = true) : readE (nodeB n) = 0 ∧ readV (nodeB n) = n ∧ (nodeB n).length = 244 := by
  have hr := rightN_of h
  have hlen := nodeB_len hr
  have hm := hr.m
  have hv := hr.v
  have hfit := fit_row hr (Nat.le_refl n.keys.length)
  obtain ⟨tl, htl⟩ : ∃ tl, nodeB n = nodeH n ++ tl := ⟨_, by unfold nodeB nodeP; rw [List.append_assoc, List.append_assoc]⟩
  have hH : nodeH n = leb 1 (if n.leaf = true then 1 else 0) ++ (leb 1 n.t.toNat ++ (leb 2 n.keys.length ++ (leb 2 (wN n) ++ (leb 2 (mN n) ++ leb 4 0)))) := by unfold nodeH; simp only [List.append_assoc]
  have hsmall := hr.m18
  have hsw := hr.w24
  have ht := hr.tl
  have q0 : n0 (nodeB n) = if n.leaf = true then 1 else 0 := by
    unfold n0
    rw [htl, hH, List.append_assoc, List.take_left' (leb_len 1 _)]
    exact le_leb 1 _ (by split <;> omega)
  have d1 : (nodeB n).drop 1 = leb 1 n.t.toNat ++ (leb 2 n.keys.length ++ (leb 2 (wN n) ++ (leb 2 (mN n) ++ (leb 4 0 ++ tl)))) := by
    rw [htl, hH, List.append_assoc, List.drop_left' (leb_len 1 _)]; simp only [List.append_assoc]
  have d2 : (nodeB n).drop 2 = leb 2 n.keys.length ++ (leb 2 (wN n) ++ (leb 2 (mN n) ++ (leb 4 0 ++ tl))) := by
    rw [show (2 : Nat) = 1 + 1 from rfl, ← List.drop_drop, d1, List.drop_left' (leb_len 1 _)]
  have d4 : (nodeB n).drop 4 = leb 2 (wN n) ++ (leb 2 (mN n) ++ (leb 4 0 ++ tl)) := by
    rw [show (4 : Nat) = 2 + 2 from rfl, ← List.drop_drop, d2, List.drop_left' (leb_len 2 _)]
  have d6 : (nodeB n).drop 6 = leb 2 (mN n) ++ (leb 4 0 ++ tl) := by
    rw [show (6 : Nat) = 4 + 2 from rfl, ← List.drop_drop, d4, List.drop_left' (leb_len 2 _)]
  have d8 : (nodeB n).drop 8 = leb 4 0 ++ tl := by
    rw [show (8 : Nat) = 6 + 2 from rfl, ← List.drop_drop, d6, List.drop_left' (leb_len 2 _)]
  have q1 : n1 (nodeB n) = n.t.toNat := by unfold n1; rw [d1, List.take_left' (leb_len 1 _)]; exact le_leb 1 _ (by omega)
  have q2 : n2 (nodeB n) = n.keys.length := by unfold n2; rw [d2, List.take_left' (leb_len 2 _)]; exact le_leb 2 _ (by omega)
  have q3 : n3 (nodeB n) = wN n := by unfold n3; rw [d4, List.take_left' (leb_len 2 _)]; exact le_leb 2 _ (by omega)
  have q4 : n4 (nodeB n) = mN n := by unfold n4; rw [d6, List.take_left' (leb_len 2 _)]; exact le_leb 2 _ (by omega)
  have q5 : n5 (nodeB n) = 0 := by unfold n5; rw [d8, List.take_left' (leb_len 4 _)]; exact le_leb 4 _ (by omega)
  have qt : (n1 (nodeB n) : Int) = n.t := by rw [q1]; omega
  have ql : lfN (nodeB n) = n.leaf := by
    unfold lfN
    rw [q0]
    cases n.leaf <;> rfl
  have qw : wB (nodeB n) = wN n := by unfold wB wN; rw [qt, ql]
  have qm : mB (nodeB n) = mN n := by unfold mB mN; rw [qt, ql]
  have hK8 : (keysB n n.keys.length).length = 8 * n.keys.length := keysB_len n (Nat.le_refl _)
  have hVw : (valsB n n.keys.length).length = wN n * n.keys.length := valsB_len n (by omega) hr.vl
  have d12 : (nodeB n).drop 12 = keysB n n.keys.length ++ (zs (8 * (mN n - n.keys.length)) ++ (valsB n n.keys.length ++ zs (232 - 8 * mN n - wN n * n.keys.length))) := by
    unfold nodeB nodeP
    rw [List.append_assoc, List.append_assoc, List.drop_left' (nodeH_len n)]
  have dK : (nodeB n).drop (12 + 8 * n.keys.length) = zs (8 * (mN n - n.keys.length)) ++ (valsB n n.keys.length ++ zs (232 - 8 * mN n - wN n * n.keys.length)) := by
    rw [← List.drop_drop, d12, List.drop_left' hK8]
  have dM : (nodeB n).drop (12 + 8 * mN n) = valsB n n.keys.length ++ zs (232 - 8 * mN n - wN n * n.keys.length) := by
    rw [show 12 + 8 * mN n = 12 + 8 * n.keys.length + 8 * (mN n - n.keys.length) by omega, ← List.drop_drop, dK, List.drop_left' (zs_len _)]
  have dV : (nodeB n).drop (12 + 8 * mN n + wN n * n.keys.length) = zs (232 - 8 * mN n - wN n * n.keys.length) := by
    rw [← List.drop_drop, dM, List.drop_left' hVw]
  have hkN : ∀ i, i < n.keys.length → (kN (nodeB n) i : Int) = n.keys.getD i 0 := fun i hi => by
    unfold kN
    rw [← List.drop_drop, d12]
    unfold keysB
    rw [List.take_length, flat_at (fun x : Int => leb 8 x.toNat) 8 _ n.keys (fun x _ => leb_len 8 _) i _ (List.getElem?_eq_getElem hi)]
    have := (keyE_zero.1 (hr.ky i hi)).1
    rw [List.getD_eq_getElem?_getD, List.getElem?_eq_getElem hi] at this ⊢
    simp only [Option.getD_some] at this ⊢
    rw [le_leb 8 _ (by omega)]
    omega
  have hvN : ∀ i, i < n.keys.length → vN (nodeB n) i = n.vals.getD i [] := fun i hi => by
    unfold vN
    rw [qm, qw, ← List.drop_drop, dM]
    unfold valsB
    have : (n.vals.take n.keys.length).flatten = n.vals.flatMap id := by rw [← hv, List.take_length]; simp [List.flatMap_id]
    rw [this, flat_at id (wN n) _ n.vals (fun x hx => ?_) i (n.vals.getD i []) (by rw [List.getD_eq_getElem?_getD, List.getElem?_eq_getElem (by omega)]; rfl)]
    · rfl
    · obtain ⟨j, hj, rfl⟩ := List.mem_iff_getElem.1 hx
      have := hr.vl j (by omega)
      rw [List.getD_eq_getElem?_getD, List.getElem?_eq_getElem hj] at this
      exact this
  have hform : formN (nodeB n) = true := by
    unfold formN shapeOk headOk z1N z2N
    rw [decide_eq_true_iff, decide_eq_true_iff, decide_eq_true_iff, hlen, q0, qt, ql, q2, q3, q4, q5, qm, qw]
    refine ⟨⟨⟨rfl, by split <;> omega, ?_⟩, hm, rfl, rfl, rfl, hr.lf⟩, ?_, ?_⟩
    · rw [hr.wi]; have := hr.w0; omega
    · rw [dK, List.take_left' (by rw [zs_len]; omega)]
      exact zs_zero _
    · rw [dV]; exact zs_zero _
  have hE : readE (nodeB n) = 0 := by
    unfold readE
    rw [if_pos hform, q2]
    apply errN_all
    intro i hi
    have h1 := hkN i hi
    obtain ⟨h2, h3⟩ := keyE_zero.1 (hr.ky i hi)
    unfold kE
    rw [if_neg (by omega), if_neg ?_]
    rintro ⟨h4, h5⟩
    have h6 := hkN (i - 1) (by omega)
    have := h3 h4
    omega
  refine ⟨hE, ?_, hlen⟩
  unfold readV
  rw [if_pos hE, q2]
  unfold partN
  rw [qt, ql]
  have e1 : keysN (nodeB n) n.keys.length = n.keys := by
    apply List.ext_getElem (keysN_len _ _)
    intro i h1 h2
    have h3 := keysN_at (nodeB n) (i := i) (k := n.keys.length) h2
    rw [hkN i h2, List.getD_eq_getElem?_getD, List.getElem?_eq_getElem h1, List.getD_eq_getElem?_getD, List.getElem?_eq_getElem h2] at h3
    exact h3
  have e2 : valsN (nodeB n) n.keys.length = n.vals := by
    apply List.ext_getElem (by rw [valsN_len, hv])
    intro i h1 h2
    have h3 := valsN_at (nodeB n) (i := i) (k := n.keys.length) (by omega)
    rw [hvN i (by omega), List.getD_eq_getElem?_getD, List.getElem?_eq_getElem h1, List.getD_eq_getElem?_getD, List.getElem?_eq_getElem h2] at h3
    exact h3
  rw [e1, e2]
end Go.Proofs.Ytilkcecjciiboaa
