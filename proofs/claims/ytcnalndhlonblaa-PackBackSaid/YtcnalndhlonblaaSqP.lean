/-
  Chapter 44, the plain law: runs of bytes, squeezed bytes, loose bytes; no program stands here.
-/
import Derived.Test.YtcnalndhlonblaaBase
namespace Go.Proofs.Ytcnalndhlonblaa

/-! ### pieces of bytes that are no runs -/
def loneF : Nat → List UInt8 → List UInt8
  | 0, _ => []
  | f + 1, w => if w = [] then [] else UInt8.ofNat (min w.length 128 - 1) :: (w.take 128 ++ loneF f (w.drop 128))
def lone (w : List UInt8) : List UInt8 := loneF w.length w
theorem loneF_nil : ∀ f, loneF f [] = []
  | 0 => rfl
  | f + 1 => by unfold loneF; rw [if_pos rfl]
theorem loneF_fuel : ∀ (f g : Nat) (w : List UInt8), w.length ≤ f → w.length ≤ g → loneF f w = loneF g w
  | 0, g, w, h, _ => by
    have : w = [] := List.eq_nil_of_length_eq_zero (by omega)
    subst this
    rw [loneF_nil, loneF_nil]
  | f + 1, 0, w, _, h => by
    have : w = [] := List.eq_nil_of_length_eq_zero (by omega)
    subst this
    rw [loneF_nil, loneF_nil]
  | f + 1, g + 1, w, h1, h2 => by
    unfold loneF
    by_cases hw : w = []
    · rw [if_pos hw, if_pos hw]
    · have := List.length_pos_iff.2 hw
      rw [if_neg hw, if_neg hw, loneF_fuel f g (w.drop 128) (by rw [List.length_drop]; omega) (by rw [List.length_drop]; omega)]
theorem lone_nil : lone [] = [] := rfl
theorem lone_step {w : List UInt8} (h : w ≠ []) : lone w = UInt8.ofNat (min w.length 128 - 1) :: (w.take 128 ++ lone (w.drop 128)) := by
  have hp := List.length_pos_iff.2 h
  unfold lone
  conv => lhs; rw [show w.length = (w.length - 1) + 1 by omega]
  rw [loneF, if_neg h, loneF_fuel (w.length - 1) (w.drop 128).length (w.drop 128) (by rw [List.length_drop]; omega) (Nat.le_refl _)]

/-! ### runs -/
def lead (c : UInt8) : List UInt8 → Nat
  | [] => 0
  | x :: l => if x = c then lead c l + 1 else 0
theorem lead_le (c : UInt8) : ∀ l, lead c l ≤ l.length
  | [] => Nat.le_refl _
  | x :: l => by
    have := lead_le c l
    unfold lead
    rw [List.length_cons]
    split <;> omega
theorem lead_in (c : UInt8) : ∀ (l : List UInt8) (j : Nat), j < lead c l → l[j]? = some c
  | [], j, h => by simp [lead] at h
  | x :: l, j, h => by
    unfold lead at h
    split at h
    · rename_i he
      cases j with
      | zero => rw [he]; rfl
      | succ j => exact lead_in c l j (by omega)
    · omega
theorem lead_end (c : UInt8) : ∀ (l : List UInt8), l[lead c l]? ≠ some c
  | [] => by simp [lead]
  | x :: l => by
    unfold lead
    split
    · exact lead_end c l
    · rename_i he
      simpa using he
def runN (b : List UInt8) (at_ : Nat) : Nat := 1 + lead (b[at_]?.getD 0) (b.drop (at_ + 1))
theorem runN_pos (b : List UInt8) (at_ : Nat) : 1 ≤ runN b at_ := by unfold runN; omega
theorem runN_fits {b : List UInt8} {at_ : Nat} (h : at_ < b.length) : at_ + runN b at_ ≤ b.length := by
  have := lead_le (b[at_]?.getD 0) (b.drop (at_ + 1))
  rw [List.length_drop] at this
  unfold runN
  omega
theorem runN_in {b : List UInt8} {at_ n : Nat} (h1 : n < runN b at_) (h0 : 1 ≤ n) : b[at_ + n]? = some (b[at_]?.getD 0) := by
  unfold runN at h1
  have := lead_in (b[at_]?.getD 0) (b.drop (at_ + 1)) (n - 1) (by omega)
  rw [List.getElem?_drop] at this
  rw [← this]
  congr 1
  omega
theorem runN_end (b : List UInt8) (at_ : Nat) : b[at_ + runN b at_]? ≠ some (b[at_]?.getD 0) := by
  have := lead_end (b[at_]?.getD 0) (b.drop (at_ + 1))
  rw [List.getElem?_drop] at this
  unfold runN
  intro h
  apply this
  rw [← h]
  congr 1
  omega
def runsF (b : List UInt8) : Nat → Nat → List (Nat × Nat)
  | 0, _ => []
  | f + 1, at_ => if at_ < b.length then (at_, runN b at_) :: runsF b f (at_ + runN b at_) else []
theorem runsF_fuel (b : List UInt8) : ∀ (f g at_ : Nat), b.length - at_ ≤ f → b.length - at_ ≤ g → runsF b f at_ = runsF b g at_
  | 0, 0, _, _, _ => rfl
  | 0, g + 1, at_, h, _ => by
    unfold runsF
    rw [if_neg (by omega)]
  | f + 1, 0, at_, _, h => by
    unfold runsF
    rw [if_neg (by omega)]
  | f + 1, g + 1, at_, h1, h2 => by
    unfold runsF
    have := runN_pos b at_
    by_cases h : at_ < b.length
    · rw [if_pos h, if_pos h, runsF_fuel b f g (at_ + runN b at_) (by omega) (by omega)]
    · rw [if_neg h, if_neg h]
/-- the runs from a place on -/
def restL (b : List UInt8) (at_ : Nat) : List (Nat × Nat) := runsF b (b.length - at_) at_
theorem restL_step {b : List UInt8} {at_ : Nat} (h : at_ < b.length) : restL b at_ = (at_, runN b at_) :: restL b (at_ + runN b at_) := by
  have := runN_pos b at_
  unfold restL
  conv => lhs; rw [show b.length - at_ = (b.length - at_ - 1) + 1 by omega]
  rw [runsF, if_pos h, runsF_fuel b _ (b.length - (at_ + runN b at_)) _ (by omega) (Nat.le_refl _)]
theorem restL_end {b : List UInt8} {at_ : Nat} (h : b.length ≤ at_) : restL b at_ = [] := by
  unfold restL
  rw [show b.length - at_ = 0 by omega]
  rfl
theorem restL_in (b : List UInt8) : ∀ (f at_ : Nat), b.length - at_ ≤ f → ∀ x ∈ restL b at_, x.1 < b.length ∧ 1 ≤ x.2 ∧ x.1 + x.2 ≤ b.length
  | 0, at_, h, x, hx => by rw [restL_end (by omega)] at hx; cases hx
  | f + 1, at_, h, x, hx => by
    by_cases hl : at_ < b.length
    · have := runN_pos b at_
      rw [restL_step hl] at hx
      rcases List.mem_cons.1 hx with rfl | hx
      · exact ⟨hl, runN_pos _ _, runN_fits hl⟩
      · exact restL_in b f _ (by omega) x hx
    · rw [restL_end (by omega)] at hx; cases hx
theorem restL_sum (b : List UInt8) : ∀ (f at_ : Nat), b.length - at_ ≤ f → at_ ≤ b.length → at_ + ((restL b at_).map (·.2)).sum = b.length
  | 0, at_, h, h2 => by rw [restL_end (by omega)]; simp; omega
  | f + 1, at_, h, h2 => by
    by_cases hl : at_ < b.length
    · have := runN_pos b at_
      have ih := restL_sum b f (at_ + runN b at_) (by omega) (runN_fits hl)
      rw [restL_step hl, List.map_cons, List.sum_cons]
      omega
    · rw [restL_end (by omega)]; simp; omega
theorem restL_len (b : List UInt8) : ∀ (f at_ : Nat), b.length - at_ ≤ f → (restL b at_).length ≤ b.length - at_
  | 0, at_, h => by rw [restL_end (by omega)]; simp
  | f + 1, at_, h => by
    by_cases hl : at_ < b.length
    · have := runN_pos b at_
      have ih := restL_len b f (at_ + runN b at_) (by omega)
      rw [restL_step hl, List.length_cons]
      omega
    · rw [restL_end (by omega)]; simp
/-- the lengths of runs, one byte after the other -/
def incL (l : List Nat) : List Nat := l.set (l.length - 1) (l[l.length - 1]?.getD 0 + 1)
theorem incL_snoc (l : List Nat) (n : Nat) : incL (l ++ [n]) = l ++ [n + 1] := by
  unfold incL
  rw [List.length_append, List.length_singleton, Nat.add_sub_cancel]
  simp
def stepR (b : List UInt8) : Nat → List Nat
  | 0 => []
  | i + 1 => if 0 < i ∧ b[i]? = b[i - 1]? then incL (stepR b i) else stepR b i ++ [1]
theorem stepR_run {b : List UInt8} {at_ : Nat} (h : at_ < b.length) (hb : at_ = 0 ∨ b[at_]? ≠ b[at_ - 1]?) : ∀ j, 1 ≤ j → j ≤ runN b at_ → stepR b (at_ + j) = stepR b at_ ++ [j]
  | 0, h0, _ => by omega
  | 1, _, _ => by
    rw [stepR, if_neg (fun h => by
      rcases hb with h1 | h1
      · omega
      · exact h1 h.2)]
  | j + 2, _, h2 => by
    have ih := stepR_run h hb (j + 1) (by omega) (by omega)
    rw [show at_ + (j + 2) = (at_ + (j + 1)) + 1 by omega, stepR, if_pos, ih, incL_snoc]
    refine ⟨by omega, ?_⟩
    rw [runN_in (by omega) (by omega)]
    by_cases hj : j = 0
    · subst hj
      rw [show at_ + (0 + 1) - 1 = at_ by omega, List.getElem?_eq_getElem h]
      rfl
    · rw [show at_ + (j + 1) - 1 = at_ + j by omega, runN_in (by omega) (by omega)]
theorem stepR_rest (b : List UInt8) : ∀ (f at_ : Nat), b.length - at_ ≤ f → at_ ≤ b.length → (at_ = 0 ∨ b.length ≤ at_ ∨ b[at_]? ≠ b[at_ - 1]?) → stepR b b.length = stepR b at_ ++ (restL b at_).map (·.2)
  | 0, at_, h, h2, _ => by rw [restL_end (by omega), show at_ = b.length by omega]; simp
  | f + 1, at_, h, h2, hb => by
    by_cases hl : at_ < b.length
    · have hp := runN_pos b at_
      have hf := runN_fits hl
      have hend := runN_end b at_
      have ih := stepR_rest b f (at_ + runN b at_) (by omega) hf (by
        by_cases he : b.length ≤ at_ + runN b at_
        · exact .inr (.inl he)
        · refine .inr (.inr fun hq => hend ?_)
          rw [hq]
          by_cases h1 : runN b at_ = 1
          · rw [h1, show at_ + 1 - 1 = at_ by omega, List.getElem?_eq_getElem hl]
            rfl
          · rw [show at_ + runN b at_ - 1 = at_ + (runN b at_ - 1) by omega, runN_in (by omega) (by omega)])
      rw [ih, stepR_run hl (by
        rcases hb with h1 | h1 | h1
        · exact .inl h1
        · omega
        · exact .inr h1) (runN b at_) hp (Nat.le_refl _), restL_step hl]
      simp
    · rw [restL_end (by omega), show at_ = b.length by omega]; simp
theorem stepR_all (b : List UInt8) : stepR b b.length = (restL b 0).map (·.2) := by
  have := stepR_rest b b.length 0 (by omega) (by omega) (.inl rfl)
  rw [this]
  rfl

/-! ### squeezed bytes -/
abbrev Sq := List UInt8 × List UInt8
def runS (c : UInt8) : Nat → Nat → Sq → Sq
  | 0, _, s => s
  | f + 1, n, s => if 3 ≤ n then runS c f (n - min n 130) (s.1 ++ lone s.2 ++ [UInt8.ofNat (min n 130 + 125), c], []) else (s.1, s.2 ++ List.replicate n c)
theorem runS_fuel (c : UInt8) : ∀ (f g n : Nat) (s : Sq), n < f → n < g → runS c f n s = runS c g n s
  | 0, g, n, s, h, _ => by omega
  | f + 1, 0, n, s, _, h => by omega
  | f + 1, g + 1, n, s, h1, h2 => by
    unfold runS
    by_cases h : 3 ≤ n
    · rw [if_pos h, if_pos h, runS_fuel c f g _ _ (by omega) (by omega)]
    · rw [if_neg h, if_neg h]
/-- what a run leaves -/
def runT (c : UInt8) (n : Nat) (s : Sq) : Sq := runS c (n + 1) n s
theorem runT_long {c : UInt8} {n : Nat} {s : Sq} (h : 3 ≤ n) : runT c n s = runT c (n - min n 130) (s.1 ++ lone s.2 ++ [UInt8.ofNat (min n 130 + 125), c], []) := by
  unfold runT
  conv => lhs; rw [runS, if_pos h]
  exact runS_fuel c _ _ _ _ (by omega) (by omega)
theorem runT_short {c : UInt8} {n : Nat} {s : Sq} (h : ¬ 3 ≤ n) : runT c n s = (s.1, s.2 ++ List.replicate n c) := by
  unfold runT
  rw [runS, if_neg h]
def stepQ (b : List UInt8) (s : Sq) (x : Nat × Nat) : Sq := runT (b[x.1]?.getD 0) x.2 s
def sqL (b : List UInt8) (pre : List (Nat × Nat)) : Sq := pre.foldl (stepQ b) ([], [])
theorem sqL_snoc (b : List UInt8) (pre : List (Nat × Nat)) (x : Nat × Nat) : sqL b (pre ++ [x]) = runT (b[x.1]?.getD 0) x.2 (sqL b pre) := by simp [sqL, stepQ]
def squeezeL (b : List UInt8) : List UInt8 := (sqL b (restL b 0)).1 ++ lone (sqL b (restL b 0)).2

/-! ### loose bytes -/
def looseF (most : Int) : Nat → List UInt8 → List UInt8 → List UInt8 × Int
  | 0, _, out => (out, 0)
  | _ + 1, [], out => (out, 0)
  | f + 1, c :: r, out =>
    if c.toNat < 128 then (if r.length < c.toNat + 1 then ([], 3) else if most < (out.length : Int) + (c.toNat + 1 : Nat) then ([], 2) else looseF most f (r.drop (c.toNat + 1)) (out ++ r.take (c.toNat + 1)))
    else (if r.length < 1 then ([], 3) else if most < (out.length : Int) + (c.toNat - 125 : Nat) then ([], 2) else looseF most f (r.drop 1) (out ++ List.replicate (c.toNat - 125) (r[0]?.getD 0)))
theorem looseF_fuel (most : Int) : ∀ (f g : Nat) (b out : List UInt8), b.length ≤ f → b.length ≤ g → looseF most f b out = looseF most g b out
  | 0, 0, _, _, _, _ => rfl
  | 0, g + 1, [], out, _, _ => rfl
  | 0, g + 1, c :: r, out, h, _ => by simp at h
  | f + 1, 0, [], out, _, _ => rfl
  | f + 1, 0, c :: r, out, _, h => by simp at h
  | f + 1, g + 1, [], out, _, _ => rfl
  | f + 1, g + 1, c :: r, out, h1, h2 => by
    rw [List.length_cons] at h1 h2
    unfold looseF
    rw [looseF_fuel most f g (r.drop (c.toNat + 1)) _ (by rw [List.length_drop]; omega) (by rw [List.length_drop]; omega), looseF_fuel most f g (r.drop 1) _ (by rw [List.length_drop]; omega) (by rw [List.length_drop]; omega)]
/-- what is still to come: b, behind out -/
def looseR (most : Int) (b out : List UInt8) : List UInt8 × Int := looseF most b.length b out
theorem looseR_nil (most : Int) (out : List UInt8) : looseR most [] out = (out, 0) := rfl
theorem looseR_cons (most : Int) (c : UInt8) (r out : List UInt8) : looseR most (c :: r) out =
    if c.toNat < 128 then (if r.length < c.toNat + 1 then ([], 3) else if most < (out.length : Int) + (c.toNat + 1 : Nat) then ([], 2) else looseR most (r.drop (c.toNat + 1)) (out ++ r.take (c.toNat + 1)))
    else (if r.length < 1 then ([], 3) else if most < (out.length : Int) + (c.toNat - 125 : Nat) then ([], 2) else looseR most (r.drop 1) (out ++ List.replicate (c.toNat - 125) (r[0]?.getD 0))) := by
  unfold looseR
  rw [List.length_cons, looseF, looseF_fuel most r.length (r.drop (c.toNat + 1)).length (r.drop (c.toNat + 1)) _ (by rw [List.length_drop]; omega) (Nat.le_refl _), looseF_fuel most r.length (r.drop 1).length (r.drop 1) _ (by rw [List.length_drop]; omega) (Nat.le_refl _)]
end Go.Proofs.Ytcnalndhlonblaa
