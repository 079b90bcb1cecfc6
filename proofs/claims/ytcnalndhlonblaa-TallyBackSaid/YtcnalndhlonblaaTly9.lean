/-
  Chapter 21: the reference's form and find; the law's short; walked.
-/
import Derived.Test.YtcnalndhlonblaaTly1
import Derived.Test.YtcnalndhlonblaaTlyP3
import Derived.Test.YtcnalndhlonblaaTly4
namespace Go.Proofs.Ytcnalndhlonblaa
open Go.RowKit
theorem ent_at9 {over : List EntL} {k : Nat} (h : k < over.length) : over[k]? = some ⟨keyA over k, valA over k, (over.getD k zE).at_⟩ := by
  unfold keyA valA
  rw [List.getD_eq_getElem?_getD, List.getElem?_eq_getElem h]
  rfl
set_option maxRecDepth 100000 in
set_option maxHeartbeats 4000000 in
theorem find_any (A : Option Addr) (c : Nat) (over : List EntL) (key : Int) (w : World) (B : Nat) (hm : over.length ≤ 100000) (h : Ents w B A over) :
    Calls Try.prog 40 #[.slice A over.length c, .int .i64 key] w fun e w' => (∃ r : Int, e = .returned (.int .i64 r) ∧ Hid ((r = -1 ∧ ∀ i, i < over.length → keyA over i ≠ key) ∨ (∃ i : Nat, r = i ∧ i < over.length ∧ keyA over i = key))) ∧ w = w' := by
  have HE := Lib.hid h
  clear h
  go_enter Try.func40, Try.ntmps40
  go_wp2_with fail
  go_loopw [5] (fun i wr => ∃ k : Nat, k ≤ over.length ∧ i = .int .i64 k ∧ wr = w ∧ Hid (∀ i, i < k → keyA over i ≠ key)) (fun i _ => over.length - (intOf i).toNat)
  case atStart => exact ⟨0, by omega, rfl, rfl, Lib.hid (fun i hi => by omega)⟩
  case round =>
    obtain ⟨k, hk, rfl, rfl, HN⟩ := hrel
    by_cases hlt : k < over.length
    · have hci : (k : Int) < (over.length : Int) := by omega
      obtain ⟨b, o, rfl, -, hc⟩ := HE.out (by omega)
      obtain ⟨e0, -, -⟩ := hc k _ (ent_at9 hlt)
      have HNX := Lib.hid (fun (h : keyA over k ≠ key) (i : Nat) (hi : i < k + 1) => (show keyA over i ≠ key from by
        rcases Nat.lt_or_ge i k with h2 | h2
        · exact HN.out i h2
        · obtain rfl : i = k := by omega
          exact h))
      have HY := Lib.hid (fun (h : keyA over k = key) => (show (((k : Int) = -1 ∧ ∀ i, i < over.length → keyA over i ≠ key) ∨ (∃ i : Nat, (k : Int) = i ∧ i < over.length ∧ keyA over i = key)) from .inr ⟨k, rfl, hlt, h⟩))
      clear hc HN
      generalize keyA over k = x at *
      by_cases hx : x = key
      · have HY2 := Lib.hid (HY.out hx)
        subst hx
        clear HNX HY
        go_wp2
        go_ret
        exact ⟨⟨_, rfl, HY2⟩, rfl⟩
      · have d1 : (x == key) = false := by rw [beq_eq_false_iff_ne]; exact hx
        have HN2 := Lib.hid (HNX.out hx)
        clear HNX HY hx
        go_wp2
        go_roundw
        case rel => exact ⟨k + 1, by omega, by go_num, by trivial, HN2⟩
        case measure => simp [intOf]; omega
    · obtain rfl : k = over.length := by omega
      go_wp2
      go_ret
      exact ⟨⟨_, rfl, Lib.hid (.inl ⟨rfl, HN.out⟩)⟩, rfl⟩
set_option maxRecDepth 100000 in
set_option maxHeartbeats 8000000 in
theorem rform21_any (A : Option Addr) (c : Nat) (bits : List (List Int)) (w : World) (B : Nat) (hm : bits.length ≤ 100000) (hl : ∀ l ∈ bits, l.length ≤ 20000000000000) (hr : Lists w B A bits) :
    Calls Try.prog 38 #[.slice A bits.length c] w fun e w' => e = .returned (.bool (formB bits)) ∧ w = w' := by
  have HR := Lib.hid hr
  have HL := Lib.hid (fun (k : Nat) (hk : k < bits.length) => hl (bits.getD k []) (by rw [List.getD_eq_getElem?_getD, List.getElem?_eq_getElem hk]; exact List.getElem_mem hk))
  have HFB := Lib.hid (formB_iff bits)
  clear hr hl
  go_enter Try.func38, Try.ntmps38
  go_wp2_with fail
  go_loopw [3] (fun s3 wr => ∃ k : Nat, k ≤ bits.length ∧ s3 = .int .i64 k ∧ wr = w ∧ Hid (∀ i, i < k → okLen bits.length i (bits.getD i []) = true ∧ okElems (bits.getD i []) = true)) (fun s3 _ => bits.length - (intOf s3).toNat)
  case atStart => exact ⟨0, by omega, rfl, rfl, Lib.hid (fun i h => by omega)⟩
  case round =>
    obtain ⟨k, hk, rfl, rfl, HOK⟩ := hrel
    by_cases hlt : k < bits.length
    · have hci : (k : Int) < (bits.length : Int) := by omega
      obtain ⟨ad, rfl, -, hc0⟩ := HR.out (by omega)
      obtain ⟨Aj, cj, q1, r1⟩ := hc0 k _ (List.getElem?_eq_getElem hlt)
      have hgl : bits[k] = bits.getD k [] := by rw [List.getD_eq_getElem?_getD, List.getElem?_eq_getElem hlt]; rfl
      rw [hgl] at q1 r1
      have HBL := Lib.hid (fun h => formB_len hlt h)
      have HBE := Lib.hid (fun j hj h => formB_elem (j := j) hlt hj h)
      have HOKN := Lib.hid (fun (h : okLen bits.length k (bits.getD k []) = true ∧ okElems (bits.getD k []) = true) (i : Nat) (hi : i < k + 1) => (show okLen bits.length i (bits.getD i []) = true ∧ okElems (bits.getD i []) = true from by
        rcases Nat.lt_or_ge i k with h2 | h2
        · exact HOK.out i h2
        · obtain rfl : i = k := by omega
          exact h))
      have hlk := HL.out k hlt
      clear hc0 hgl HOK
      generalize bits.getD k [] = l at *
      by_cases c2 : l.length = 0
      · have HF := Lib.hid (HBL.out (by unfold okLen; exact decide_eq_false (by omega)))
        rw [c2] at q1
        clear HBL HBE HOKN c2 hlk
        go_wp2
        go_ret
        exact ⟨by rw [HF.out]; rfl, rfl⟩
      have i2 : ((l.length : Int) == 0) = false := by rw [beq_eq_false_iff_ne]; omega
      by_cases c1 : 960 < l.length
      · have HF := Lib.hid (HBL.out (by unfold okLen; exact decide_eq_false (by omega)))
        have i1 : (960 : Int) < (l.length : Int) := by omega
        clear HBL HBE HOKN
        go_wp2
        go_ret
        exact ⟨by rw [HF.out]; rfl, rfl⟩
      have i1 : decide (960 < l.length) = false := decide_eq_false c1
      by_cases c3 : k + 1 < bits.length ∧ l.length < 960
      · obtain ⟨c4, c5⟩ := c3
        have HF := Lib.hid (HBL.out (by unfold okLen; exact decide_eq_false (by omega)))
        have i3 : (l.length : Int) < 960 := by omega
        have i4 : (k : Int) + 1 < (bits.length : Int) := by omega
        clear HBL HBE HOKN c2
        go_wp2
        go_ret
        exact ⟨by rw [HF.out]; rfl, rfl⟩
      have HOL := Lib.hid (show okLen bits.length k l = true from by unfold okLen; exact decide_eq_true (by omega))
      have HI1 := Lib.hid (show decide ((960 : Int) < (l.length : Int)) = false from decide_eq_false (by omega))
      have HI3 := Lib.hid (show k + 1 < bits.length → decide ((l.length : Int) < 960) = false from fun h => decide_eq_false (fun h2 => c3 ⟨h, by omega⟩))
      go_upto_region 5 with fail
      go_cut [33] (fun s33 wx => s33 = .bool false ∧ wx = wr)
      case first =>
        by_cases c4 : k + 1 < bits.length
        · have i4 : (k : Int) + 1 < (bits.length : Int) := by omega
          have i5 : decide (l.length < 960) = false := decide_eq_false (fun h => c3 ⟨c4, h⟩)
          clear HBL HBE HOKN c2 c3
          have HI4 := Lib.hid (HI3.out c4)
          go_wp2
          go_meet
          have hs : Value.bool (decide ((960 : Int) < (l.length : Int)) || decide ((l.length : Int) < 960)) = .bool false := by rw [HI1.out, HI4.out]; rfl
          exact ⟨hs, rfl⟩
        · have i4 : decide (k + 1 < bits.length) = false := decide_eq_false c4
          clear HBL HBE HOKN c2 c3
          go_wp2
          go_meet
          have hs : Value.bool (decide ((960 : Int) < (l.length : Int))) = .bool false := by rw [HI1.out]
          exact ⟨hs, rfl⟩
      case rest =>
        obtain ⟨rfl, rfl⟩ := hcut
        have HRR := Lib.hid r1
        have HQ1 := Lib.hid q1
        have HL9 := Lib.hid (show l.length ≤ 960 by omega)
        clear c1 c2 c3 i1 i2 HBL r1 hlk HI1 HI3
        go_wp2_with fail
        go_loopw [5] (fun s5 wq => ∃ j : Nat, j ≤ l.length ∧ s5 = .int .i64 j ∧ wq = wc ∧ Hid (∀ i, i < j → 0 ≤ l.getD i 0 ∧ l.getD i 0 ≤ 3)) (fun s5 _ => l.length - (intOf s5).toNat)
        case atStart => exact ⟨0, by omega, rfl, rfl, Lib.hid (fun i h => by omega)⟩
        case round =>
          obtain ⟨j, hj, rfl, hwq, HOKj⟩ := hrel
          subst hwq
          by_cases hlj : j < l.length
          · have hcj : (j : Int) < (l.length : Int) := by omega
            obtain ⟨a1, rfl, -, f1⟩ := HRR.out.at_ (k := j) (by rw [iv_len]; exact hlj)
            rw [iv_at hlj] at f1
            have HBE2 := Lib.hid (fun h => HBE.out j hlj h)
            have HOKK := Lib.hid (fun (h : 0 ≤ l.getD j 0 ∧ l.getD j 0 ≤ 3) (i : Nat) (hi : i < j + 1) => (show 0 ≤ l.getD i 0 ∧ l.getD i 0 ≤ 3 from by
              rcases Nat.lt_or_ge i j with h2 | h2
              · exact HOKj.out i h2
              · obtain rfl : i = j := by omega
                exact h))
            have hl9 := HL9.out
            clear HOKj
            generalize l.getD j 0 = x at *
            by_cases hx0 : x < 0
            · have HF := Lib.hid (HBE2.out (.inl hx0))
              clear HBE2 HOKK HBE HOKN
              go_wp2
              go_ret
              exact ⟨by rw [HF.out]; rfl, rfl⟩
            by_cases hx3 : 3 < x
            · have HF := Lib.hid (HBE2.out (.inr hx3))
              have d0 : decide (x < 0) = false := decide_eq_false hx0
              clear HBE2 HOKK HBE HOKN hx0
              go_wp2
              go_ret
              exact ⟨by rw [HF.out]; rfl, rfl⟩
            have d0 : decide (x < 0) = false := decide_eq_false hx0
            have d3 : decide (3 < x) = false := decide_eq_false hx3
            have HOK2 := Lib.hid (HOKK.out ⟨by omega, by omega⟩)
            clear HBE2 HOKK hx0
            go_wp2
            go_roundw
            case rel => exact ⟨j + 1, by omega, by go_num, by trivial, HOK2⟩
            case measure => simp [intOf]; omega
          · obtain rfl : j = l.length := by omega
            have HOKL := Lib.hid (HOKN.out ⟨HOL.out, okElems_of HOKj.out⟩)
            clear hlj hj HBE HOKN HOKj
            go_wp2
            go_roundw
            case rel => exact ⟨k + 1, by omega, by go_num, by trivial, HOKL⟩
            case measure => simp [intOf]; omega
    · obtain rfl : k = bits.length := by omega
      have HF := Lib.hid (HFB.out.2 HOK.out)
      clear hlt hk HOK
      go_wp2
      go_ret
      exact ⟨by rw [HF.out]; rfl, rfl⟩
end Go.Proofs.Ytcnalndhlonblaa
