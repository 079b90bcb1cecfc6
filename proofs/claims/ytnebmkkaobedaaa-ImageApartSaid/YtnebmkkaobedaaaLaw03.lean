/-
  Chapter 3's ImageNew, walked.
-/
import Derived.Test.YtnebmkkaobedaaaImgR
import Derived.Deep.DeepCutAuto
namespace Go.Proofs.Ytnebmkkaobedaaa
open Go.RowKit

set_option maxRecDepth 100000 in
theorem lives03 (w : World) : Calls Try.prog 21 #[] w fun e w' => e = .returned (.bool true) ∧ Below w.heap.size w w' := by
  obtain ⟨i0, hi, hz0, hz1, hz2⟩ := info_parts Try.infoByte
  obtain ⟨z, hz⟩ : ∃ z : List UInt8, z = List.replicate (2 * 256) 0 := ⟨_, rfl⟩
  have hzl : z.length = 512 := by rw [hz]; exact List.length_replicate
  have hn := inew_ok 2 (by omega) w
  rw [← hz] at hn
  obtain ⟨y, hy⟩ : ∃ y : List UInt8, y = List.replicate 600 0 := ⟨_, rfl⟩
  have hyl : y.length = 600 := by rw [hy]; exact List.length_replicate
  have HM : (madeCells (Value.int .u8 0).cells (600 * 1)).toList = bv y := by rw [made_bytes, hy]
  have HM := Lib.hid HM
  have hil : (imgOf y).length / 256 = 2 := by unfold imgOf; rw [List.length_take, hyl]; rfl
  have HIL := Lib.hid hil
  have HO := Lib.hid (fun A c W h1 h => iof_any A c y W h1 (by rw [hyl]; simp [reachBytes]) h)
  rw [hyl] at HO
  have HZL := Lib.hid hzl
  clear hz hy hyl hzl hil
  go_enter Try.func21, Try.ntmps21
  go_wp2_with fail
  refine hn.mono ?_
  rintro e w1 ⟨g, A, c, rfl, hI, hB⟩
  clear hn
  go_wp2_with fail
  refine (ibytes_any hI).mono ?_
  rintro e w2 ⟨A2, c2, rfl, hown, hb⟩
  rw [bv_len, HZL.out]
  have hB2 := below_then hB hb
  clear hown hb hB hI
  obtain ⟨w3, hrun, hown, hg⟩ := run_make_full (P := Try.prog) w2 w.heap.size 30 5 i0 _ 1 Try.underlying30 hi hz0 hz1 .i64 .i64 600 (by rw [hz2]; omega) (by simp only [maxLen]; omega) hB2.size
  rw [HM.out] at hown
  rw [show ((600 : Nat) : Int) = 600 from rfl] at hrun
  have hB3 : Below w.heap.size w w3 := hB2.grown hg hB2.size (fun k hk => by cases hk)
  have hr := Reads.of_own hown
  clear hown hg
  go_wp2_with fail
  refine (HO.out _ 600 _ (by omega) hr).mono ?_
  rintro e w4 ⟨g4, A4, c4, rfl, hI4, hb4⟩
  have hB4 := below_then hB3 hb4
  clear hr hb4
  have hbl := blocks_any hI4
  rw [HIL.out] at hbl
  go_wp2_with fail
  refine hbl.mono ?_
  rintro e w5 ⟨rfl, rfl⟩
  clear hbl
  go_wp2
  go_ret
  exact ⟨rfl, hB4⟩
set_option maxRecDepth 100000 in
set_option maxHeartbeats 1000000 in
theorem law_ImageNew (a0 : Int) (w : World) (w0 : (Lit.int .i64 a0).wf = true) : Calls Try.prog 3 #[.int .i64 a0] w fun e w' => e = .returned (.bool true) ∧ Below w.heap.size w w' := by
  obtain ⟨wl, wh⟩ := wf_i64 w0
  clear w0
  go_enter Try.func3, Try.ntmps3
  go_upto_region 1 with fail
  go_cut [12] (fun s12 wx => w = wx ∧ s12 = .bool (decide (40 < a0 ∧ a0 ≤ 14400)))
  case first =>
    by_cases h1 : 40 < a0
    · by_cases h2 : a0 ≤ 14400
      · have d1 : decide (40 < a0) = true := decide_eq_true h1
        have d2 : decide (a0 ≤ 14400) = true := decide_eq_true h2
        have d3 : decide (40 < a0 ∧ a0 ≤ 14400) = true := decide_eq_true ⟨h1, h2⟩
        go_wp2
        go_meet
        exact ⟨rfl, by rw [d3]⟩
      · have d1 : decide (40 < a0) = true := decide_eq_true h1
        have d2 : decide (a0 ≤ 14400) = false := decide_eq_false h2
        have d3 : decide (40 < a0 ∧ a0 ≤ 14400) = false := decide_eq_false (fun h => h2 h.2)
        go_wp2
        go_meet
        exact ⟨rfl, by rw [d3]⟩
    · have d1 : decide (40 < a0) = false := decide_eq_false h1
      have d3 : decide (40 < a0 ∧ a0 ≤ 14400) = false := decide_eq_false (fun h => h1 h.1)
      go_wp2
      go_meet
      exact ⟨rfl, by rw [d3]⟩
  case rest =>
    obtain ⟨rfl, rfl⟩ := hcut
    go_upto_if 12 with fail
    go_cut [0] (fun s0 wx => w = wx ∧ ((∃ n : Nat, n ≤ 40 ∧ s0 = .int .i64 n) ∨ ∃ n : Int, (n < 0 ∨ 14400 < n) ∧ s0 = .int .i64 n))
    case first =>
      by_cases h : 40 < a0 ∧ a0 ≤ 14400
      · have d3 : decide (40 < a0 ∧ a0 ≤ 14400) = true := decide_eq_true h
        have h0 : 0 ≤ a0 := by omega
        go_wp2
        go_meet
        exact ⟨rfl, .inl ⟨(a0 % 40).toNat, by omega, by rw [Int.toNat_of_nonneg (by omega)]⟩⟩
      · have d3 : decide (40 < a0 ∧ a0 ≤ 14400) = false := decide_eq_false h
        have hh : (∃ n : Nat, n ≤ 40 ∧ Value.int .i64 a0 = .int .i64 n) ∨ ∃ n : Int, (n < 0 ∨ 14400 < n) ∧ Value.int .i64 a0 = .int .i64 n := by
          by_cases h1 : 0 ≤ a0 ∧ a0 ≤ 40
          · exact .inl ⟨a0.toNat, by omega, by rw [Int.toNat_of_nonneg h1.1]⟩
          · exact .inr ⟨a0, by omega, rfl⟩
        have HH := Lib.hid hh
        clear hh
        go_wp2
        go_meet
        exact ⟨rfl, HH.out⟩
    case rest =>
      obtain ⟨rfl, h⟩ := hcut
      rcases h with ⟨n, hn, rfl⟩ | ⟨n, hn, rfl⟩
      · have h1 := inew_ok n (by omega) w
        have h2 := fun W => rnew_ok n (by omega) W
        go_wp2_with fail
        refine h1.mono ?_
        rintro e w1 ⟨g, A, c, rfl, hI, hB⟩
        clear h1
        go_wp2_with fail
        refine (h2 _).mono ?_
        rintro e w2 ⟨g2, A2, c2, rfl, hR, hb⟩
        have hB2 := below_then hB hb
        have hI := hI.below hb
        obtain ⟨z, hz⟩ : ∃ z : List UInt8, z = List.replicate (n * 256) 0 := ⟨_, rfl⟩
        have hzl : z.length = n * 256 := by rw [hz]; exact List.length_replicate
        have hzf : (List.replicate n (List.replicate 256 (0 : UInt8))).flatten = z := by rw [hz, List.flatten_replicate_replicate]
        rw [← hz] at hI
        have b1 := fun W hb => ibytes_any (hI.below (w' := W) hb)
        have b2 := fun W hb => rbytes_img (hR.below (w' := W) hb) (fun l hl => by rw [List.eq_of_mem_replicate hl]; exact List.length_replicate)
        have b3 := fun W hb => blocks_any (hI.below (w' := W) hb)
        rw [hzl] at b3
        rw [show n * 256 / 256 = n by omega] at b3
        simp only [hzf] at b2
        have HZL := Lib.hid hzl
        have d1 : ((n : Int) == n) = true := by simp
        clear h2 hb hB hz hzf hzl hI hR
        go_wp2_with fail
        go_region_with (first | (go_at_call 22; refine (b1 _ ((Below.refl _ _).drew)).mono ?_; rintro e w3 ⟨A3, c3, rfl, hown3, hb3⟩; replace hb3 : Below w2.heap.size w2 w3 := undrew hb3; rw [bv_len, HZL.out] at hown3; rw [bv_len, HZL.out]; have cv3 := conv_own z HZL.out hown3) | (go_at_call 23; refine (b2 _ hb3).mono ?_; rintro e w4 ⟨A4, c4, rfl, hown4, hb4⟩; rw [bv_len, HZL.out] at hown4; rw [bv_len, HZL.out]; have cv4 := conv_own z HZL.out hown4; have cv5 := conv_own z HZL.out (own_keep hown3 hb4)) | (go_at_call 24; refine (b3 _ (below_then hb3 hb4)).mono ?_; rintro e w5 ⟨rfl, rfl⟩) | (go_at_call 21; refine (lives03 _).mono ?_; rintro e w6 ⟨rfl, hb6⟩))
        all_goals
          have hBf := below_then (below_then (below_then hB2 hb3) hb4) hb6
          clear b1 b2 b3 cv3 cv4 cv5 hown3 hown4 hb3 hb4 hb6 hB2
          go_wp2
          go_ret
          exact ⟨rfl, hBf⟩
      · have h1 := inew_bad n hn w
        have h2 := rnew_bad n hn w
        clear hn
        go_wp2_with fail
        refine h1.mono ?_
        rintro e w1 ⟨rfl, rfl⟩
        clear h1
        go_wp2_with fail
        refine h2.mono ?_
        rintro e w1 ⟨rfl, rfl⟩
        clear h2
        go_wp2_with fail
        refine (lives03 _).mono ?_
        rintro e w1 ⟨rfl, hb⟩
        go_wp2
        go_ret
        exact ⟨rfl, hb⟩
end Go.Proofs.Ytnebmkkaobedaaa
