/-
  The reference's Free and Put of layer 9, walked.
-/
import Derived.Test.YtahomneljdjjjaaBits2
import Derived.BigQuiet
import Derived.BigRegion
import Derived.IntWalk
import Derived.StillTailTactics
import Derived.Deep.RegionLaw
namespace Go.Proofs.Ytahomneljdjjjaa
open Go.RowKit

set_option maxHeartbeats 1000000 in
theorem rfree_any (A : Option Addr) (c : Nat) (l : List Int) (w : World) (B : Nat) (hm : l.length * 8 ≤ reachBytes) (h : Reads w B A (iv l)) :
    Calls Try.prog 45 #[.slice A l.length c] w fun e w' => e = .returned (.tuple #[.int .i64 (zerosN l), .int .i64 (firstN l)]) ∧ w = w' := by
  simp only [reachBytes] at hm
  go_enter Try.func45, Try.ntmps45
  go_wp2_with fail
  go_loop [4, 5] (fun z i => ∃ k : Nat, k ≤ l.length ∧ i = .int .i64 k ∧ z = .int .i64 (zerosN (l.take k))) (fun _ i => l.length - (intOf i).toNat)
  case atStart => exact ⟨0, by omega, rfl, rfl⟩
  case round =>
    obtain ⟨k, hk, rfl, rfl⟩ := hrel
    by_cases hlt : k < l.length
    · obtain ⟨ad, rfl, _, hc⟩ := h.num hlt
      have hzs := zeros_snoc l k hlt
      have hzl := zeros_le l k
      by_cases h0 : l[k] = 0
      · rw [if_pos h0] at hzs
        have HZS := Lib.hid hzs
        rw [h0] at hc
        clear hzs h0
        generalize zerosN (l.take k) = z at *
        go_wp2
        refine ⟨⟨k + 1, by omega, by go_num, by rw [HZS.out]; go_num⟩, by simp [intOf]; omega⟩
      · rw [if_neg h0, Nat.add_zero] at hzs
        have d1 : (l[k] == 0) = false := by simpa using h0
        have HZS := Lib.hid hzs
        clear hzs h0
        generalize l[k] = y at *
        go_wp2
        refine ⟨⟨k + 1, by omega, by go_num, by rw [HZS.out]; rfl⟩, by simp [intOf]; omega⟩
    · obtain rfl : k = l.length := by omega
      have HZL : zerosN (l.take l.length) = zerosN l := by rw [List.take_length]
      rw [HZL]
      clear HZL
      generalize hzz : zerosN l = zz at *
      have HZZ := Lib.hid hzz
      clear hzz
      go_wp2_with fail
      go_loop [6] (fun i => ∃ k : Nat, k ≤ l.length ∧ i = .int .i64 k ∧ ∀ j, j < k → ∀ hj : j < l.length, l[j] ≠ 0) (fun i => l.length - (intOf i).toNat)
      case atStart => exact ⟨0, by omega, rfl, by intro j hj; omega⟩
      case round =>
        obtain ⟨k, hk, rfl, hz⟩ := hrel
        have HZ := Lib.hid hz
        clear hz
        by_cases hlt : k < l.length
        · obtain ⟨ad, rfl, _, hc⟩ := h.num hlt
          have i0 : (0 : Int) ≤ (k : Int) := by omega
          have i1 : (k : Int) < (l.length : Int) := by omega
          by_cases h0 : l[k] = 0
          · have HF := Lib.hid (first_at hlt HZ.out h0)
            rw [h0] at hc
            clear h0
            go_wp2
            go_ret2
            exact ⟨by rw [HF.out, HZZ.out]; rfl, rfl⟩
          · have d1 : (l[k] != 0) = true := by simpa using h0
            have HN : ∀ j, j < k + 1 → ∀ hj : j < l.length, l[j] ≠ 0 := fun j hj hl => by
              rcases Nat.lt_or_ge j k with h1 | h1
              · exact HZ.out j h1 hl
              · obtain rfl : j = k := by omega
                exact h0
            have HN := Lib.hid HN
            clear h0
            generalize l[k] = y at *
            go_wp2
            refine ⟨⟨k + 1, by omega, by go_num, HN.out⟩, by simp [intOf]; omega⟩
        · obtain rfl : k = l.length := by omega
          have HF := Lib.hid (first_none (fun j hj => HZ.out j hj hj))
          go_wp2
          go_ret2
          exact ⟨by rw [HF.out, HZZ.out]; rfl, rfl⟩
theorem own_ne9 {w : World} {B1 B2 e1 e2 n1 n2 : Nat} {v1 v2 : Value} {xs ys : List Value} (h1 : w.ownsRow B1 e1 1 v1 n1 xs) (h2 : w.ownsRow B2 e2 1 v2 n2 ys) (he : e1 ≠ e2) : v1.ownBlock = none ∨ v1.ownBlock ≠ v2.ownBlock := by
  rcases h1.2 with ⟨rfl, _⟩ | ⟨g, cap, cur, rfl, _, hg, _⟩
  · exact .inl rfl
  · right
    rcases h2.2 with ⟨rfl, _⟩ | ⟨g', cap', cur', rfl, _, hg', _⟩
    · simp [Value.ownBlock]
    · intro e
      simp only [Value.ownBlock, Option.some.injEq] at e
      subst e
      rw [hg] at hg'
      injection hg' with hg'
      injection hg' with _ ht _
      exact he ht
theorem undrew9 {B : Nat} {w w' : World} (h : Below B w.drew w') : Below B w w' := ((Below.refl B w).drew).trans h
theorem dg_cast {l : List Int} (h : ∀ n ∈ l, 0 ≤ n ∧ n ≤ 3) (i : Nat) : l.getD i 0 = ((dg l i : Nat) : Int) := by
  unfold dg
  rw [List.getD_eq_getElem?_getD]
  rcases Nat.lt_or_ge i l.length with h1 | h1
  · rw [List.getElem?_eq_getElem h1]
    have := h _ (List.getElem_mem h1)
    simp only [Option.getD_some]
    omega
  · rw [List.getElem?_eq_none h1]
    simp
theorem body_snoc (l : List Int) (j : Nat) (hj : j < 240) : (bodyB l).take (j + 1) = (bodyB l).take j ++ [UInt8.ofNat (four4 (dg l (4 * j)) (dg l (4 * j + 1)) (dg l (4 * j + 2)) (dg l (4 * j + 3)))] := by
  rw [take_snoc (bodyB l) j (by rw [bodyB_len]; exact hj)]
  simp only [bodyB, List.getElem_map, List.getElem_range, byteN]
theorem body_all (l : List Int) : leb 4 l.length ++ (bodyB l).take 240 = bitsB l := by
  unfold bitsB
  rw [List.take_of_length_le (by rw [bodyB_len]; omega)]
theorem byte_sum (a b c d : Nat) (ha : a < 4) (hb : b < 4) (hc : c < 4) (hd : d < 4) : four4 a b c d < 256 := by unfold four4; omega
/-- what the reference's row of all counts holds behind k rounds -/
def padTo (l : List Int) (k : Nat) : List Int := l.take k ++ List.replicate (960 - k) 0
theorem padTo_len (l : List Int) (k : Nat) (hk : k ≤ l.length) (h9 : l.length ≤ 960) : (padTo l k).length = 960 := by
  unfold padTo
  rw [List.length_append, List.length_take, List.length_replicate]
  omega
theorem padTo_set (l : List Int) (k : Nat) (hk : k < l.length) (h9 : l.length ≤ 960) : (iv (padTo l k)).set k (.int .i64 l[k]) = iv (padTo l (k + 1)) := by
  have e : 960 - k = (960 - (k + 1)) + 1 := by omega
  unfold padTo
  rw [e, List.replicate_succ, iv_append]
  have h2 : (iv (l.take k)).length = k := by rw [iv_len, List.length_take]; omega
  rw [List.set_append_right _ _ (by omega), h2, Nat.sub_self]
  rw [take_snoc l k hk, iv_append, iv_append, List.append_assoc]
  rfl
theorem padTo_dg (l : List Int) (i : Nat) (h9 : l.length ≤ 960) (hi : i < 960) : (padTo l l.length)[i]? = some (l.getD i 0) := by
  unfold padTo
  rw [List.take_length, List.getD_eq_getElem?_getD, List.getElem?_append]
  split
  · rename_i h
    rw [List.getElem?_eq_getElem h]
    rfl
  · rename_i h
    rw [List.getElem?_replicate, if_pos (by omega), List.getElem?_eq_none (by omega)]
    rfl
set_option maxRecDepth 100000 in
set_option maxHeartbeats 2000000 in
theorem rput9_any (A : Option Addr) (c : Nat) (l : List Int) (w : World) (hm : l.length * 8 ≤ reachBytes) (h : Reads w w.heap.size A (iv l)) :
    Calls Try.prog 43 #[.slice A l.length c] w (GivesE 5 (bv (bitsV l)) (bitsE l) w) := by
  have mm := hm
  simp only [reachBytes] at mm
  by_cases h9 : 960 < l.length
  · have hv : bitsV l = [] ∧ bitsE l = 1 := by
      have : cntsB l = false := by simp [cntsB]; omega
      exact ⟨by unfold bitsV; rw [this]; rfl, by unfold bitsE; rw [this]; rfl⟩
    rw [hv.1, hv.2]
    have d1 : decide ((960 : Int) < (l.length : Int)) = true := decide_eq_true (by omega)
    clear hv
    go_enter Try.func43, Try.ntmps43
    go_wp2
    go_ret2
    exact ⟨none, 0, rfl, World.ownsRow_nil _ _ _ _, Below.refl _ _⟩
  have d1 : decide ((960 : Int) < (l.length : Int)) = false := decide_eq_false (by omega)
  obtain ⟨i0', hi, hz0, hz1, hz2⟩ := info_parts Try.infoU8
  obtain ⟨i1', ki, kz0, kz1, kz2⟩ := info_parts Try.infoInt
  have HM := Lib.hid (show (madeCells (Value.int .i64 0).cells (960 * 1)).toList = iv (padTo l 0) by rw [made_ints]; rfl)
  have HBAD := Lib.hid (fun (k : Nat) (n : Int) (hb : l[k]? = some n) (hn : decide (0 ≤ n ∧ n ≤ 3) = false) => (show bitsV l = [] ∧ bitsE l = 1 from by
    have : cntsB l = false := by unfold cntsB; rw [show (l.all fun n => decide (0 ≤ n ∧ n ≤ 3)) = false from allC_no l k n hb hn]; simp
    exact ⟨by unfold bitsV; rw [this]; rfl, by unfold bitsE; rw [this]; rfl⟩))
  have HGOOD := Lib.hid (fun (hb : ∀ j, j < l.length → ∀ n, l[j]? = some n → decide (0 ≤ n ∧ n ≤ 3) = true) => (show cntsB l = true ∧ bitsV l = bitsB l ∧ bitsE l = 0 from by
    have : cntsB l = true := by unfold cntsB; rw [show (l.all fun n => decide (0 ≤ n ∧ n ≤ 3)) = true from allC_yes l hb]; simp; omega
    exact ⟨this, by unfold bitsV; rw [this]; rfl, by unfold bitsE; rw [this]; rfl⟩))
  have hrb := fun W => rbytes_any l.length (by omega) 4 (by omega) W
  rw [show ((4 : Nat) : Int) = 4 from rfl] at hrb
  go_enter Try.func43, Try.ntmps43
  go_wp2_with (at_make; refine wpList_make_full _ rfl (.const _) (.const _) _ rfl w.heap.size 3 i1' _ 1 Try.underlying46 ki kz0 kz1 .i64 .i64 960 960 960 rfl rfl (by omega) (by omega) (by rw [kz2]; omega) (by simp only [maxLen]; omega) (Nat.le_refl _) ?_; intro w1 hown1 hg1; rw [HM.out] at hown1)
  have hB1 : Below w.heap.size w w1 := (Below.refl _ _).grown hg1 (Nat.le_refl _) (fun k hk => by cases hk)
  go_loopw [5] (fun i wr => ∃ k : Nat, k ≤ l.length ∧ i = .int .i64 k ∧ wr.ownsRow w.heap.size 3 1 (.slice (some ⟨w.heap.size, 0, none⟩) 960 960) 960 (iv (padTo l k)) ∧ (∀ j, j < k → ∀ n, l[j]? = some n → decide (0 ≤ n ∧ n ≤ 3) = true) ∧ Below w.heap.size w wr) (fun i _ => l.length - (intOf i).toNat)
  case atStart => exact ⟨0, by omega, rfl, hown1, by intro j hj; omega, hB1⟩
  case round =>
    obtain ⟨k, hk, rfl, hown, hz, hbr⟩ := hrel
    have HZ := Lib.hid hz
    clear hz
    by_cases hlt : k < l.length
    · obtain ⟨ad, rfl, _, hc⟩ := (h.below hbr).num hlt
      have HB := Lib.hid (show l[k]? = some l[k] from List.getElem?_eq_getElem hlt)
      have hcell : wr.cell? ⟨w.heap.size, k, none⟩ = some (.int .i64 0) := by
        rw [hown.cellAt k (by omega)]
        unfold padTo
        rw [iv_append, List.getElem?_append_right (by rw [iv_len, List.length_take]; omega), iv_len, List.length_take, iv_get _ _ (by rw [List.length_replicate]; omega), List.getElem_replicate]
      have hfz := hown.frozenAt k
      obtain ⟨ho2, hgr⟩ := hown.stored k (.int .i64 l[k])
      rw [padTo_set l k hlt (by omega)] at ho2
      have i0 : (0 : Int) ≤ (k : Int) := by omega
      have i1 : (k : Int) < (l.length : Int) := by omega
      have i2 : (k : Int) < 960 := by omega
      cases hx : decide (0 ≤ l[k] ∧ l[k] ≤ 3) with
      | true =>
        have hxx := of_decide_eq_true hx
        have d2 : decide (l[k] < 0) = false := decide_eq_false (by omega)
        have d3 : decide (3 < l[k]) = false := decide_eq_false (by omega)
        have HX := Lib.hid hx
        have hB2 : Below w.heap.size w (wr.setCell ⟨w.heap.size, k, none⟩ (.int .i64 l[k])) := hbr.setCell (Nat.le_refl _) _
        clear hx hxx
        generalize l[k] = x at *
        have HZ2 : ∀ j, j < k + 1 → ∀ n, l[j]? = some n → decide (0 ≤ n ∧ n ≤ 3) = true := fun j hj n hn => by
          rcases Nat.lt_or_ge j k with h1 | h1
          · exact HZ.out j h1 n hn
          · obtain rfl : j = k := by omega
            have := HB.out
            rw [this] at hn
            injection hn with hn
            rw [← hn]
            exact HX.out
        have HZ2 := Lib.hid HZ2
        go_wp2
        go_roundw
        case rel => exact ⟨k + 1, by omega, by go_num, ho2, HZ2.out, hB2⟩
        case measure => simp [intOf]; omega
      | false =>
        have HV := Lib.hid (HBAD.out k _ HB.out hx)
        have hxx := of_decide_eq_false hx
        clear hx ho2 hgr
        generalize l[k] = x at *
        by_cases hx0 : x < 0
        · have d2 : decide (x < 0) = true := decide_eq_true hx0
          go_wp2
          go_ret2
          exact ⟨none, 0, by rw [HV.out.1, HV.out.2]; rfl, by rw [HV.out.1]; exact World.ownsRow_nil _ _ _ _, hbr⟩
        · have d2 : decide (x < 0) = false := decide_eq_false hx0
          have d3 : decide (3 < x) = true := decide_eq_true (by omega)
          go_wp2
          go_ret2
          exact ⟨none, 0, by rw [HV.out.1, HV.out.2]; rfl, by rw [HV.out.1]; exact World.ownsRow_nil _ _ _ _, hbr⟩
    · obtain rfl : k = l.length := by omega
      obtain ⟨hcb, hv1, hv2⟩ := HGOOD.out HZ.out
      have hE := cnts_each hcb
      have HV := Lib.hid (And.intro hv1 hv2)
      clear hv1 hv2 HGOOD HBAD HM
      go_wp2_with fail
      refine (hrb _).mono ?_
      rintro e w2 ⟨A2, c2, rfl, hown2, hb2⟩
      rw [bv_len, leb_len] at hown2
      rw [bv_len, leb_len]
      have hown := own_keep hown hb2
      have hbr2 := hbr.trans (hb2.mono hbr.size)
      have hown2 := own_mono hown2 hbr.size
      have hpl := padTo_len l l.length (Nat.le_refl _) (by omega)
      have HCELL := Lib.hid (fun i hi => padTo_dg l i (by omega) hi)
      have HDV := Lib.hid (fun i => dg_lt hE i)
      have HDC := Lib.hid (fun i => dg_cast hE i)
      have HBY := Lib.hid (fun j hj => body_snoc l j hj)
      have HALL := Lib.hid (body_all l)
      have HBL := Lib.hid (bitsB_len l)
      clear hrb hb2 hbr hB1 hown1 hg1 hE HZ
      go_wp2_with fail
      go_loopw [6, 7] (fun v i wq => ∃ (j t : Nat), j ≤ 240 ∧ t = 4 * j ∧ i = .int .i64 t ∧ wq.ownsRow w.heap.size 5 1 v (4 + j) (bv (leb 4 l.length ++ (bodyB l).take j)) ∧ wq.ownsRow w.heap.size 3 1 (.slice (some ⟨w.heap.size, 0, none⟩) 960 960) 960 (iv (padTo l l.length)) ∧ Below w.heap.size w wq) (fun _ i _ => 960 - (intOf i).toNat)
      case atStart => exact ⟨0, 0, by omega, rfl, rfl, by simpa using hown2, hown, hbr2⟩
      case round =>
        obtain ⟨j, t, hj, ht, rfl, hob, hoa, hbq⟩ := hrel
        obtain ⟨Ab, cb, rfl⟩ := own_form hob
        by_cases hlt2 : j < 240
        · have cell : ∀ r, r < 4 → wr.cell? ⟨w.heap.size, t + r, none⟩ = some (.int .i64 (dg l (t + r) : Nat)) := fun r hr => by
            rw [hoa.cellAt _ (by omega)]
            have hp := HCELL.out (t + r) (by omega)
            unfold iv
            rw [List.getElem?_map, hp, HDC.out (t + r)]
            rfl
          have y0 := cell 0 (by omega)
          have y1 := cell 1 (by omega)
          have y2 := cell 2 (by omega)
          have y3 := cell 3 (by omega)
          rw [Nat.add_zero] at y0
          have l0 := HDV.out t
          have l1 := HDV.out (t + 1)
          have l2 := HDV.out (t + 2)
          have l3 := HDV.out (t + 3)
          have HBJ := HBY.out j hlt2
          rw [← ht] at HBJ
          have HBJ := Lib.hid HBJ
          generalize dg l t = x0 at *
          generalize dg l (t + 1) = x1 at *
          generalize dg l (t + 2) = x2 at *
          generalize dg l (t + 3) = x3 at *
          have ht2 : t + 4 ≤ 960 := by omega
          have HT := Lib.hid ht
          clear cell ht
          have k0 : (0 : Int) ≤ (t : Int) := by omega
          have k1 : (0 : Int) ≤ (t : Int) + 1 := by omega
          have k2 : (0 : Int) ≤ (t : Int) + 2 := by omega
          have k3 : (0 : Int) ≤ (t : Int) + 3 := by omega
          have m0 : (t : Int) < 960 := by omega
          have m1 : (t : Int) + 1 < 960 := by omega
          have m2 : (t : Int) + 2 < 960 := by omega
          have m3 : (t : Int) + 3 < 960 := by omega
          go_wp2_with fail
          have e1 : IntKind.i64.wrap ((t : Int) + 1) = (t : Int) + 1 := IntWalk.i64_in _ (by omega)
          have e2 : IntKind.i64.wrap ((t : Int) + 2) = (t : Int) + 2 := IntWalk.i64_in _ (by omega)
          have e3 : IntKind.i64.wrap ((t : Int) + 3) = (t : Int) + 3 := IntWalk.i64_in _ (by omega)
          have f1 : IntKind.i64.wrap (4 * (x1 : Int)) = 4 * (x1 : Int) := IntWalk.i64_in _ (by omega)
          have f2 : IntKind.i64.wrap (16 * (x2 : Int)) = 16 * (x2 : Int) := IntWalk.i64_in _ (by omega)
          have f3 : IntKind.i64.wrap (64 * (x3 : Int)) = 64 * (x3 : Int) := IntWalk.i64_in _ (by omega)
          have g1 : IntKind.i64.wrap ((x0 : Int) + 4 * (x1 : Int)) = (x0 : Int) + 4 * (x1 : Int) := IntWalk.i64_in _ (by omega)
          have g2 : IntKind.i64.wrap ((x0 : Int) + 4 * (x1 : Int) + 16 * (x2 : Int)) = (x0 : Int) + 4 * (x1 : Int) + 16 * (x2 : Int) := IntWalk.i64_in _ (by omega)
          have g3 : IntKind.i64.wrap ((x0 : Int) + 4 * (x1 : Int) + 16 * (x2 : Int) + 64 * (x3 : Int)) = (x0 : Int) + 4 * (x1 : Int) + 16 * (x2 : Int) + 64 * (x3 : Int) := IntWalk.i64_in _ (by omega)
          have n1 : ((t : Int) + 1).toNat = t + 1 := by omega
          have n2 : ((t : Int) + 2).toNat = t + 2 := by omega
          have n3 : ((t : Int) + 3).toNat = t + 3 := by omega
          obtain ⟨four, hfour⟩ : ∃ f, f = four4 x0 x1 x2 x3 := ⟨_, rfl⟩
          have hf256 : four < 256 := by rw [hfour]; unfold four4; omega
          have g4 : ((x0 : Int) + 4 * (x1 : Int) + 16 * (x2 : Int) + 64 * (x3 : Int)) % 256 = (four : Int) := by rw [hfour]; unfold four4; omega
          have g5 : IntKind.u8.wrap ((x0 : Int) + 4 * (x1 : Int) + 16 * (x2 : Int) + 64 * (x3 : Int)) = (four : Int) := by rw [IntKind.wrap_u8]; exact g4
          have HF := Lib.hid hfour
          have hr2 := Reads.new wr [Value.int .u8 (four : Int)] 5 (0, 0)
          have HN := Lib.hid (show [Value.int .u8 (four : Int)] = bv [UInt8.ofNat four] by simp [bv, Nat.mod_eq_of_lt hf256])
          have hsz := hbq.size
          have c0 : ∀ o, (wr.alloc o).cell? ⟨w.heap.size, t, none⟩ = some (.int .i64 x0) := fun o => (World.cell?_alloc_lt wr o _ (block_lt_of_cell y0)).trans y0
          have c1 : ∀ o, (wr.alloc o).cell? ⟨w.heap.size, t + 1, none⟩ = some (.int .i64 x1) := fun o => (World.cell?_alloc_lt wr o _ (block_lt_of_cell y1)).trans y1
          clear hfour
          have hne : some w.heap.size ≠ (Value.slice Ab (4 + j) cb).ownBlock := by
            rcases own_ne9 hoa hob (by decide) with h0 | h0
            · cases h0
            · exact h0
          have y0' := y0
          have y1' := y1
          have y2' := y2
          have y3' := y3
          go_region_held3 (fun W => W.cell? ⟨w.heap.size, t, none⟩ = some (.int .i64 x0) ∧ W.cell? ⟨w.heap.size, t + 1, none⟩ = some (.int .i64 x1) ∧ W.cell? ⟨w.heap.size, t + 2, none⟩ = some (.int .i64 x2) ∧ W.cell? ⟨w.heap.size, t + 3, none⟩ = some (.int .i64 x3)) (first | go_keep | exact And.imp (fun h => hg3.cell h hne) (And.imp (fun h => hg3.cell h hne) (And.imp (fun h => hg3.cell h hne) (fun h => hg3.cell h hne))) (by assumption)) ((refine step_append_to_s _ rfl (.tmp 44) (.tmp 71) _ rfl w.heap.size 1 5 i0' _ 1 Try.underlying24 hi hz0 hz1 hz2 rfl (by decide) (.slice Ab (4 + j) cb) (4 + j) (bv (leb 4 l.length ++ (bodyB l).take j)) rfl (hob.alloc _) _ _ 1 1 [Value.int .u8 (four : Int)] rfl (by simp) hr2 (by simp [Value.oneCell']) (by simp only [maxLen]; omega) (by omega) (by simp; omega) ?_; intro A' c' w3 hown3 hg3 hb3))
          have hg3' : (wr.alloc (.cells #[Value.int .u8 (four : Int)] 5)).grownBy w3 (Value.slice Ab (4 + j) cb).ownBlock := ⟨hg3.os, hg3.tape, hg3.output, hg3.size, hg3.block⟩
          have hoa3 := (hoa.alloc (.cells #[Value.int .u8 (four : Int)] 5)).kept hg3' (own_ne9 hoa hob (by decide))
          have hB3 : Below w.heap.size w w3 := (hbq.alloc hsz (.cells #[Value.int .u8 (four : Int)] 5)).trans (undrew9 hb3)
          have hrow : bv (leb 4 l.length ++ (bodyB l).take j) ++ [Value.int .u8 (four : Int)] = bv (leb 4 l.length ++ (bodyB l).take (j + 1)) := by
            rw [HBJ.out, ← HF.out, HN.out, ← bv_append, List.append_assoc]
          rw [hrow] at hown3
          clear hrow e1 e2 e3 f1 f2 f3 g1 g2 g3 g4 g5 n1 n2 n3 c0 c1 y0 y1 y2 y3 y0' y1' y2' y3' hr2 hg3 hb3 hg3' hob hoa HN hne
          go_wp2
          go_roundw
          case rel => exact ⟨j + 1, t + 4, by omega, by have := HT.out; omega, by go_num, by rw [show 4 + (j + 1) = 4 + j + 1 by omega]; exact hown3, hoa3, hB3⟩
          case measure => simp [intOf]; omega
        · obtain rfl : j = 240 := by omega
          obtain rfl : t = 960 := by omega
          rw [HALL.out] at hob
          clear ht
          go_wp2
          go_ret2
          exact ⟨Ab, cb, by rw [HV.out.1, HV.out.2, bv_len, HBL.out]; rfl, by rw [HV.out.1, bv_len, HBL.out]; exact hob, hbq⟩
end Go.Proofs.Ytahomneljdjjjaa
