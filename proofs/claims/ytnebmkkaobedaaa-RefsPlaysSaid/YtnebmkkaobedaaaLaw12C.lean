/-
  Chapter 12's RefsOrder, walked.
-/
import Derived.Test.YtnebmkkaobedaaaLaw12B
import Derived.Deep.DeepCutAuto
namespace Go.Proofs.Ytnebmkkaobedaaa
open Go.RowKit

theorem apart_of {w : World} {B e n : Nat} {v : Value} {xs : List Value} (h : w.ownsRow B e 1 v n xs) {r : Option Nat} (hr : ∀ k, r = some k → k < B) : v.ownBlock = none ∨ v.ownBlock ≠ r := by
  cases hv : v.ownBlock with
  | none => exact .inl rfl
  | some k =>
    right
    intro he
    have := hr k he.symm
    have := own_ge h hv
    omega
/-- two counters, one made behind the other, and a list that was told behind both -/
structure Two (w : World) (S1 S2 g1 g2 : Nat) (A1 : Option Addr) (c1 : Nat) (A2 : Option Addr) (c2 : Nat) (A3 : Option Addr) (c3 : Nat) (zs lx ly : List Int) (W : World) : Prop where
  x : Cnt W w.heap.size g1 A1 c1 lx
  xa : g1 < S1 ∧ ∀ k, (Value.slice A1 lx.length c1).ownBlock = some k → k < S1
  y : Cnt W S1 g2 A2 c2 ly
  ya : g2 < S2 ∧ ∀ k, (Value.slice A2 ly.length c2).ownBlock = some k → k < S2
  t : W.ownsRow S2 3 1 (.slice A3 zs.length c3) zs.length (iv zs)
  s : w.heap.size ≤ S1 ∧ S1 ≤ S2 ∧ S2 ≤ W.heap.size
  b : Below w.heap.size w W
variable {w : World} {S1 S2 g1 g2 : Nat} {A1 : Option Addr} {c1 : Nat} {A2 : Option Addr} {c2 : Nat} {A3 : Option Addr} {c3 : Nat} {zs lx ly : List Int} {W : World}
theorem Two.addx (h : Two w S1 S2 g1 g2 A1 c1 A2 c2 A3 c3 zs lx ly W) {W' : World} {lx' : List Int} (hl : lx'.length = lx.length) (hx : Cnt W' w.heap.size g1 A1 c1 lx') (hg : W.grownBy W' (Value.slice A1 lx.length c1).ownBlock) :
    Two w S1 S2 g1 g2 A1 c1 A2 c2 A3 c3 zs lx' ly W' := by
  have hs := h.s
  refine ⟨hx, by rw [hl]; exact h.xa, h.y.kept hg (fun e => ?_) (apart_of h.y.2.1 h.xa.2), h.ya, h.t.kept hg (apart_of h.t fun k hk => ?_), ⟨hs.1, hs.2.1, Nat.le_trans hs.2.2 hg.size⟩, h.b.grown hg h.b.size fun k hk => own_ge h.x.2.1 hk⟩
  · have := h.xa.2 _ e
    have := h.y.2.2.2
    omega
  · have := h.xa.2 _ hk
    omega
theorem Two.addy (h : Two w S1 S2 g1 g2 A1 c1 A2 c2 A3 c3 zs lx ly W) {W' : World} {ly' : List Int} (hl : ly'.length = ly.length) (hy : Cnt W' S1 g2 A2 c2 ly') (hg : W.grownBy W' (Value.slice A2 ly.length c2).ownBlock) :
    Two w S1 S2 g1 g2 A1 c1 A2 c2 A3 c3 zs lx ly' W' := by
  have hs := h.s
  refine ⟨h.x.kept hg (fun e => ?_) ?_, h.xa, hy, by rw [hl]; exact h.ya, h.t.kept hg (apart_of h.t h.ya.2), ⟨hs.1, hs.2.1, Nat.le_trans hs.2.2 hg.size⟩, h.b.grown hg h.b.size fun k hk => ?_⟩
  · have := own_ge h.y.2.1 e
    have := h.xa.1
    omega
  · cases hv : (Value.slice A1 lx.length c1).ownBlock with
    | none => exact .inl rfl
    | some k =>
      right
      intro he
      have := h.xa.2 k hv
      have := own_ge h.y.2.1 he.symm
      omega
  · have := own_ge h.y.2.1 hk
    omega
theorem Two.below (h : Two w S1 S2 g1 g2 A1 c1 A2 c2 A3 c3 zs lx ly W) {W' : World} (hb : Below W.heap.size W W') : Two w S1 S2 g1 g2 A1 c1 A2 c2 A3 c3 zs lx ly W' :=
  ⟨h.x.below hb, h.xa, h.y.below hb, h.ya, own_keep h.t hb, ⟨h.s.1, h.s.2.1, Nat.le_trans h.s.2.2 hb.size⟩, below_then h.b hb⟩
/-- the counts after some calls of Add -/
def addsL (z : List Int) (l : List Int) : List Int := l.foldl addL z
theorem addsL_snoc (z l : List Int) (k : Int) : addsL z (l ++ [k]) = addL (addsL z l) k := by simp [addsL]
theorem addsL_len (z l : List Int) : (addsL z l).length = z.length := by
  induction l generalizing z with
  | nil => rfl
  | cons k l ih => exact (ih (addL z k)).trans (addL_len z k)
theorem addL_comm (z : List Int) (a b : Int) : addL (addL z a) b = addL (addL z b) a := by
  unfold addL
  by_cases ha : addE z.length a = 0
  · by_cases hb : addE z.length b = 0
    · rw [if_pos ha, if_pos hb, List.length_set, List.length_set, if_pos ha, if_pos hb]
      by_cases he : a.toNat = b.toNat
      · rw [he]
      · rw [List.set_comm _ _ he]
        congr 2
        · simp only [List.getD_eq_getElem?_getD]
          rw [List.getElem?_set_ne he]
        · simp only [List.getD_eq_getElem?_getD]
          rw [List.getElem?_set_ne (Ne.symm he)]
    · rw [if_pos ha, if_neg hb, List.length_set, if_neg hb, if_pos ha]
  · by_cases hb : addE z.length b = 0
    · rw [if_neg ha, if_pos hb, List.length_set, if_neg ha]
    · rw [if_neg ha, if_neg hb, if_neg ha]
theorem addsL_add (z l : List Int) (a : Int) : addsL (addL z a) l = addL (addsL z l) a := by
  induction l generalizing z with
  | nil => rfl
  | cons k l ih =>
    show addsL (addL (addL z a) k) l = addL (addsL (addL z k) l) a
    rw [addL_comm, ih]
theorem addsL_rev (z l : List Int) : addsL z l.reverse = addsL z l := by
  induction l generalizing z with
  | nil => rfl
  | cons k l ih =>
    rw [List.reverse_cons, addsL_snoc, ih]
    exact (addsL_add z l k).symm
theorem addL_bound {z : List Int} {m : Int} (h : ∀ x ∈ z, 0 ≤ x ∧ x ≤ m) (k : Int) : ∀ x ∈ addL z k, 0 ≤ x ∧ x ≤ m + 1 := by
  intro x hx
  unfold addL at hx
  split at hx
  · rcases List.mem_or_eq_of_mem_set hx with h1 | h1
    · have := h x h1; omega
    · have : 0 ≤ z.getD k.toNat 0 ∧ (z.getD k.toNat 0 ≤ m ∨ z.getD k.toNat 0 = 0) := by
        rw [List.getD_eq_getElem?_getD]
        cases hq : z[k.toNat]? with
        | none => simp
        | some y => have := h y (List.mem_of_getElem? hq); simp; omega
      unfold addE at *
      rename_i hE
      split at hE
      · cases hE
      · rename_i hr
        have hlt : k.toNat < z.length := by omega
        have := h _ (List.getElem_mem hlt)
        rw [List.getD_eq_getElem?_getD, List.getElem?_eq_getElem hlt] at h1
        simp at h1
        omega
  · have := h x hx; omega
theorem addsL_bound (n : Nat) (l : List Int) : ∀ x ∈ addsL (List.replicate n 0) l, 0 ≤ x ∧ x ≤ l.length := by
  have : ∀ (l z : List Int) (m : Int), (∀ x ∈ z, 0 ≤ x ∧ x ≤ m) → ∀ x ∈ addsL z l, 0 ≤ x ∧ x ≤ m + l.length := by
    intro l
    induction l with
    | nil => intro z m h x hx; have := h x hx; simp; omega
    | cons k l ih =>
      intro z m h x hx
      have := ih (addL z k) (m + 1) (addL_bound h k) x hx
      rw [List.length_cons]
      omega
  intro x hx
  have := this l (List.replicate n 0) 0 (by intro y hy; rw [List.mem_replicate] at hy; omega) x hx
  omega
set_option maxRecDepth 100000 in
set_option maxHeartbeats 4000000 in
theorem law_RefsOrder (a0 : Int) (A : Option Addr) (c : Nat) (l : List Int) (w : World) (_w0 : (Lit.int .i64 a0).wf = true) (_q1 : l.length ≤ c) (_m1 : l.length * 8 ≤ reachBytes) (_f1 : ∀ x ∈ l, (Lit.int .i64 x).wf = true) (r1 : Reads w w.heap.size A (iv l)) :
    Calls Try.prog 9 #[.int .i64 a0, .slice A l.length c] w fun e w' => e = .returned (.bool true) ∧ Below w.heap.size w w' := by
  have hand := i64_mask a0 8 (by decide) 255 (by decide)
  obtain ⟨n, hn⟩ := Int.eq_ofNat_of_zero_le (show 0 ≤ a0 % (2 ^ 8 : Nat) by omega)
  have hn256 : n < 256 := by omega
  rw [hn] at hand
  have k1 := cnew_ok n (by omega) w
  go_enter Try.func9, Try.ntmps9
  clear hn
  go_wp2_with fail
  refine k1.mono ?_
  rintro e w1 ⟨g1, A1, c1, rfl, hx1, hb1⟩
  have k2 := cnew_ok n (by omega) w1
  have hG1 := hx1.1.lt
  have hR1 : ∀ k, (Value.slice A1 (List.replicate n (0 : Int)).length c1).ownBlock = some k → k < w1.heap.size := fun k hk => (hx1.2.1.lt k hk).2
  clear k1
  go_wp2_with fail
  refine k2.mono ?_
  rintro e w2 ⟨g2, A2, c2, rfl, hy2, hb2⟩
  have hx2 := hx1.below hb2
  have hG2 := hy2.1.lt
  have hR2 : ∀ k, (Value.slice A2 (List.replicate n (0 : Int)).length c2).ownBlock = some k → k < w2.heap.size := fun k hk => (hy2.2.1.lt k hk).2
  have hB2 := below_then hb1 hb2
  clear k2 hx1
  by_cases hl : 200 < l.length
  · have d1 : decide (200 < (l.length : Int)) = true := decide_eq_true (by omega)
    clear hx2 hy2 hR1 hR2 hG1 hG2 hb1 hb2
    go_wp2_with fail
    refine (lives12 _).mono ?_
    rintro e w3 ⟨rfl, hb3⟩
    have hB3 := below_then hB2 hb3
    go_wp2
    go_ret
    exact ⟨rfl, hB3⟩
  · have d1 : decide (200 < (l.length : Int)) = false := decide_eq_false (by omega)
    have k3 := list_any hx2
    go_wp2_with fail
    refine k3.mono ?_
    rintro e w3 ⟨A3, c3, rfl, ht3, hb3⟩
    rw [iv_len] at ht3
    rw [iv_len]
    have HT := Lib.hid (show Two w w1.heap.size w2.heap.size g1 g2 A1 c1 A2 c2 A3 c3 (List.replicate n 0) (List.replicate n 0) (List.replicate n 0) w3 from
      ⟨hx2.below hb3, ⟨hG1, hR1⟩, hy2.below hb3, ⟨hG2, hR2⟩, ht3, ⟨hb1.size, hb2.size, hb3.size⟩, below_then hB2 hb3⟩)
    have HZ := Lib.hid (List.length_replicate (n := n) (a := (0 : Int)))
    clear k3 hx2 hy2 hR1 hR2 hG1 hG2 hb1 hb2 hb3 hB2 ht3
    rw [HZ.out]
    have hll : l.length ≤ 200 := by omega
    go_wp2_with fail
    go_loopw [10] (fun i wr => ∃ k : Nat, k ≤ l.length ∧ i = .int .i64 k ∧ Two w w1.heap.size w2.heap.size g1 g2 A1 c1 A2 c2 A3 c3 (List.replicate n 0) (addsL (List.replicate n 0) (l.take k)) (addsL (List.replicate n 0) (l.reverse.take k)) wr) (fun i _ => l.length - (intOf i).toNat)
    case atStart => exact ⟨0, Nat.zero_le _, rfl, HT.out⟩
    case round =>
      obtain ⟨k, hk, rfl, hT⟩ := hrel
      have HTK := Lib.hid hT
      by_cases hlt : k < l.length
      · have hlt2 : l.length - 1 - k < l.length := by omega
        obtain ⟨ad, hA, -, hc1⟩ := (r1.below hT.b).at_ (k := k) (by rw [iv_len]; exact hlt)
        obtain ⟨ad', hA', -, hc2⟩ := (r1.below hT.b).at_ (k := l.length - 1 - k) (by rw [iv_len]; exact hlt2)
        subst hA
        cases hA'
        replace hc1 : wr.cell? (ad.add k) = some (.int .i64 l[k]) := by rw [hc1]; simp [iv]
        have hrv : l.reverse[k]'(by rw [List.length_reverse]; exact hlt) = l[l.length - 1 - k] := List.getElem_reverse _
        have hT1 : addsL (List.replicate n 0) (l.take (k + 1)) = addL (addsL (List.replicate n 0) (l.take k)) l[k] := by rw [take_snoc l k hlt, addsL_snoc]
        have hT2 : addsL (List.replicate n 0) (l.reverse.take (k + 1)) = addL (addsL (List.replicate n 0) (l.reverse.take k)) l[l.length - 1 - k] := by rw [take_snoc l.reverse k (by rw [List.length_reverse]; exact hlt), addsL_snoc, hrv]
        have HT1 := Lib.hid hT1
        have HT2 := Lib.hid hT2
        have bd1 : ∀ x ∈ addsL (List.replicate n 0) (l.take k), 0 ≤ x ∧ x < 9223372036854775807 := fun x hx => by
          have := addsL_bound n (l.take k) x hx
          rw [List.length_take] at this
          omega
        have bd2 : ∀ x ∈ addsL (List.replicate n 0) (l.reverse.take k), 0 ≤ x ∧ x < 9223372036854775807 := fun x hx => by
          have := addsL_bound n (l.reverse.take k) x hx
          rw [List.length_take, List.length_reverse] at this
          omega
        have q1 := add_any hT.x l[k] bd1
        have q2 := fun W (h : Cnt W w1.heap.size g2 A2 c2 (addsL (List.replicate n 0) (l.reverse.take k))) => add_any h l[l.length - 1 - k] bd2
        have HC2 := Lib.hid (show ∀ W, Below w.heap.size w W → W.cell? (ad.add (l.length - 1 - k)) = some (.int .i64 l[l.length - 1 - k]) from fun W hW => by
          obtain ⟨ad', hA', -, hc⟩ := (r1.below hW).at_ (k := l.length - 1 - k) (by rw [iv_len]; exact hlt2)
          cases hA'
          rw [hc]
          simp [iv])
        have HL1 := Lib.hid (addL_len (addsL (List.replicate n 0) (l.take k)) l[k])
        have HL2 := Lib.hid (addL_len (addsL (List.replicate n 0) (l.reverse.take k)) l[l.length - 1 - k])
        have e1 : (l.length : Int) - 1 - (k : Int) = ((l.length - 1 - k : Nat) : Int) := by omega
        have i0 : (0 : Int) ≤ (k : Int) := by omega
        have i1 : (k : Int) < (l.length : Int) := by omega
        have i2 : ((l.length - 1 - k : Nat) : Int) < (l.length : Int) := by omega
        generalize addsL (List.replicate n 0) (l.take k) = X at *
        generalize addsL (List.replicate n 0) (l.reverse.take k) = Y at *
        clear hT hT1 hT2 hc2 hrv bd1 bd2
        generalize l[k] = x at *
        generalize l[l.length - 1 - k] = y at *
        generalize l.length - 1 - k = j at *
        go_wp2_with fail
        refine q1.mono ?_
        rintro e w4 ⟨rfl, hx4, hg4⟩
        have HT4 := Lib.hid (HTK.out.addx HL1.out hx4 hg4)
        have q3 := q2 w4 HT4.out.y
        have hc2 := HC2.out w4 HT4.out.b
        clear q1 q2 hx4 hg4 hc1
        go_wp2_with fail
        refine q3.mono ?_
        rintro e w5 ⟨rfl, hy5, hg5⟩
        have HT5 := Lib.hid (HT4.out.addy HL2.out hy5 hg5)
        clear q3 hy5 hg5 hc2
        go_wp2
        go_roundw
        case rel => exact ⟨k + 1, by omega, by go_num, by rw [HT1.out, HT2.out]; exact HT5.out⟩
        case measure => simp [intOf]; omega
      · obtain rfl : k = l.length := by omega
        have hE : addsL (List.replicate n 0) (l.reverse.take l.length) = addsL (List.replicate n 0) l := by rw [List.take_of_length_le (by rw [List.length_reverse]; omega), addsL_rev]
        rw [hE, List.take_length] at hT
        have hXL : (addsL (List.replicate n 0) l).length = n := by rw [addsL_len, List.length_replicate]
        have HXL := Lib.hid hXL
        clear hE HTK hXL HT
        generalize addsL (List.replicate n 0) l = X at *
        have HT := Lib.hid hT
        have hrt := Reads.of_own hT.t
        have HRP := Lib.hid (fun k (hk : k < n) => (show (List.replicate n (0 : Int))[k]? = some 0 from by rw [List.getElem?_replicate, if_pos hk]))
        generalize List.replicate n (0 : Int) = Z at *
        clear hT
        have hZ := HZ.out
        go_wp2_with fail
        go_loopw [11] (fun i wx => ∃ k : Nat, k ≤ n ∧ i = .int .i64 k ∧ wx = wr) (fun i _ => n - (intOf i).toNat)
        case atStart => exact ⟨0, Nat.zero_le _, rfl, rfl⟩
        case round =>
          obtain ⟨k, hkn, rfl, rfl⟩ := hrel
          by_cases hkl : k < n
          · obtain ⟨ad, hA, -, hcz⟩ := hrt.at_ (k := k) (by rw [iv_len, hZ]; exact hkl)
            subst hA
            have hz := HRP.out k hkl
            replace hcz : wr.cell? (ad.add k) = some (.int .i64 0) := by
              rw [hcz]
              have := List.getElem?_eq_getElem (l := Z) (i := k) (by omega)
              rw [hz] at this
              injection this with this
              simp [iv, ← this]
            have i0 : (0 : Int) ≤ (k : Int) := by omega
            have i1 : (k : Int) < (n : Int) := by omega
            clear hz hZ hrt
            go_wp2
            go_roundw
            case rel => exact ⟨k + 1, by omega, by go_num, trivial⟩
            case measure => simp [intOf]; omega
          · obtain rfl : k = n := by omega
            have k1 := list_any HT.out.x
            clear hrt hZ
            go_wp2_with fail
            refine k1.mono ?_
            rintro e w4 ⟨A4, c4, rfl, ho4, hb4⟩
            rw [iv_len] at ho4
            rw [iv_len]
            have HT4 := Lib.hid (HT.out.below hb4)
            have k2 := list_any HT4.out.y
            clear k1
            go_wp2_with fail
            refine k2.mono ?_
            rintro e w5 ⟨A5, c5, rfl, ho5, hb5⟩
            rw [iv_len] at ho5
            rw [iv_len]
            have HT5 := Lib.hid (HT4.out.below hb5)
            have k3 := sameI_any A4 c4 A5 c5 X w5 _ _ (by have := HXL.out; simp only [reachBytes]; omega) ((Reads.of_own ho4).ext hb5) (Reads.of_own ho5)
            clear k2 ho4 ho5 hb4 hb5
            go_wp2_with fail
            refine k3.mono ?_
            rintro e w6 ⟨rfl, hb6⟩
            have HT6 := Lib.hid (HT5.out.below hb6)
            have k4 := total_any HT6.out.x.nums
            clear k3 hb6
            obtain ⟨S, hS⟩ : ∃ S, S = sumW (pickL 0 X X.length) := ⟨_, rfl⟩
            rw [← hS] at k4
            have HS := Lib.hid hS
            have dS : (S == S) = true := by simp
            clear hS
            go_wp2_with fail
            refine k4.mono ?_
            rintro e w7 ⟨rfl, hb7⟩
            have HT7 := Lib.hid (HT6.out.below hb7)
            have k5 := total_any HT7.out.y.nums
            rw [← HS.out] at k5
            clear k4 hb7
            go_wp2_with fail
            refine k5.mono ?_
            rintro e w8 ⟨rfl, hb8⟩
            have HB8 := Lib.hid (below_then HT7.out.b hb8)
            clear k5 hb8
            go_wp2_with fail
            refine (lives12 _).mono ?_
            rintro e w9 ⟨rfl, hb9⟩
            have hB9 := below_then HB8.out hb9
            go_wp2
            go_ret
            exact ⟨rfl, hB9⟩
end Go.Proofs.Ytnebmkkaobedaaa
