/-
  Chapter 21: the law's short, walked.
-/
import Derived.Test.YtcnalndhlonblaaTly9
namespace Go.Proofs.Ytcnalndhlonblaa
open Go.RowKit
def Small21 (bits : List (List Int)) (over : List EntL) : Prop := bits.length ≤ 10 ∧ bits.flatten.length ≤ 9600 ∧ over.length ≤ 500
def sumV (over : List EntL) : Nat → Nat
  | 0 => 0
  | k + 1 => sumV over k + (valA over k).length
set_option maxRecDepth 100000 in
set_option maxHeartbeats 8000000 in
theorem short21_any (A : Option Addr) (c : Nat) (bits : List (List Int)) (A2 : Option Addr) (c2 : Nat) (over : List EntL) (w : World) (B B2 : Nat) (hm : bits.length ≤ 20000000000000) (hl : ∀ l ∈ bits, l.length ≤ 20000000000000)
    (hm2 : over.length ≤ 20000000000000) (hv : ∀ k, k < over.length → (valA over k).length ≤ reachBytes) (hr : Lists w B A bits) (he : Ents w B2 A2 over) :
    Calls Try.prog 15 #[.slice A bits.length c, .slice A2 over.length c2] w fun e w' => ∃ q : Bool, e = .returned (.bool q) ∧ Hid (q = true → Small21 bits over) ∧ w = w' := by
  have HR := Lib.hid hr
  have HE := Lib.hid he
  have HL := Lib.hid (fun (k : Nat) (hk : k < bits.length) => hl (bits.getD k []) (by rw [List.getD_eq_getElem?_getD, List.getElem?_eq_getElem hk]; exact List.getElem_mem hk))
  have HV := Lib.hid hv
  simp only [reachBytes] at HV
  clear hr he hl hv
  go_enter Try.func15, Try.ntmps15
  go_wp2_with fail
  go_loopw [5, 6] (fun s5 s6 wr => ∃ k n1 : Nat, k ≤ bits.length ∧ k ≤ 11 ∧ s5 = .int .i64 n1 ∧ s6 = .int .i64 k ∧ n1 ≤ k * 20000000000000 ∧ Hid (n1 = ((bits.take k).flatten).length) ∧ wr = w) (fun _ s6 _ => 11 - (intOf s6).toNat)
  case atStart => exact ⟨0, 0, by omega, by omega, rfl, rfl, by omega, Lib.hid rfl, rfl⟩
  case round =>
    obtain ⟨k, n1, hk, hk11, rfl, rfl, hn1, HN1, hwr⟩ := hrel
    subst hwr
    by_cases hgo : k < bits.length ∧ k < 11
    · obtain ⟨hlt, h11⟩ := hgo
      have hci : (k : Int) < (bits.length : Int) := by omega
      have hcj : (k : Int) < 11 := by omega
      obtain ⟨ad, rfl, -, hc0⟩ := HR.out (by omega)
      obtain ⟨Aj, cj, q1, -⟩ := hc0 k _ (List.getElem?_eq_getElem hlt)
      have hgl : bits[k] = bits.getD k [] := by rw [List.getD_eq_getElem?_getD, List.getElem?_eq_getElem hlt]; rfl
      rw [hgl] at q1
      have hlk := HL.out k hlt
      have HN2 := Lib.hid (show n1 + (bits.getD k []).length = ((bits.take (k + 1)).flatten).length from by rw [flat_next hlt, List.length_append, ← HN1.out])
      clear hc0 hgl
      generalize (bits.getD k []).length = ll at *
      go_wp2
      go_roundw
      case rel => exact ⟨k + 1, n1 + ll, by omega, by omega, by go_num, by go_num, by omega, HN2, by trivial⟩
      case measure => simp [intOf]; omega
    · have HN10 := Lib.hid (show bits.length ≤ 10 → n1 = bits.flatten.length from fun h => by
        have : k = bits.length := by omega
        rw [HN1.out, this, List.take_length])
      have hex : k = bits.length ∨ (k < bits.length ∧ k = 11) := by omega
      clear hgo HN1
      go_upto_region 3 with fail
      go_cut [16] (fun s16 wx => s16 = .bool false ∧ wx = wr)
      case first =>
        rcases hex with h1 | ⟨h1, h2⟩
        · have d1 : decide (k < bits.length) = false := decide_eq_false (by omega)
          subst h1
          go_wp2
          go_meet
          exact ⟨rfl, rfl⟩
        · subst h2
          have d1 : (11 : Int) < (bits.length : Int) := by omega
          clear h1
          go_wp2
          go_meet
          exact ⟨rfl, rfl⟩
      case rest =>
        obtain ⟨rfl, rfl⟩ := hcut
        clear hex
        go_wp2_with fail
        go_loopw [7, 8] (fun s7 s8 wr => ∃ k2 n2 : Nat, k2 ≤ over.length ∧ k2 ≤ 501 ∧ s7 = .int .i64 n2 ∧ s8 = .int .i64 k2 ∧ n2 ≤ k2 * 140737488351232 ∧ wr = wc) (fun _ s8 _ => 501 - (intOf s8).toNat)
        case atStart => exact ⟨0, 0, by omega, by omega, rfl, rfl, by omega, rfl⟩
        case round =>
          obtain ⟨k2, n2, hk2, hk21, rfl, rfl, hn2, hwr⟩ := hrel
          subst hwr
          by_cases hgo : k2 < over.length ∧ k2 < 501
          · obtain ⟨hlt, h11⟩ := hgo
            have hci : (k2 : Int) < (over.length : Int) := by omega
            have hcj : (k2 : Int) < 501 := by omega
            obtain ⟨b, o, rfl, -, hc⟩ := HE.out (by omega)
            obtain ⟨-, e1, -⟩ := hc k2 _ (ent_at9 hlt)
            have hvk := HV.out k2 hlt
            clear hc
            generalize valA over k2 = val at *
            go_wp2
            go_roundw
            case rel => exact ⟨k2 + 1, n2 + val.length, by omega, by omega, by go_num, by go_num, by omega, by trivial⟩
            case measure => simp [intOf]; omega
          · have hex : k2 = over.length ∨ (k2 < over.length ∧ k2 = 501) := by omega
            clear hgo
            go_upto_region 8 with fail
            go_cut [33] (fun s33 wx => s33 = .bool false ∧ wx = wr)
            case first =>
              rcases hex with h1 | ⟨h1, h2⟩
              · have d1 : decide (k2 < over.length) = false := decide_eq_false (by omega)
                subst h1
                go_wp2
                go_meet
                exact ⟨rfl, rfl⟩
              · subst h2
                have d1 : (501 : Int) < (over.length : Int) := by omega
                clear h1
                go_wp2
                go_meet
                exact ⟨rfl, rfl⟩
            case rest =>
              obtain ⟨rfl, rfl⟩ := hcut
              clear hex hk2
              have HQ := Lib.hid (show ∀ q : Bool, (q = true → Small21 bits over) → (q = true → Small21 bits over) from fun q h => h)
              by_cases b1 : bits.length ≤ 10
              case neg =>
                have HF := Lib.hid (HQ.out false (fun h => by cases h))
                have d1 : decide ((bits.length : Int) ≤ 10) = false := decide_eq_false (by omega)
                clear HQ
                go_wp2
                go_ret
                first | exact ⟨false, rfl, HF, rfl⟩ | exact Or.inl ⟨rfl, Lib.hid trivial, rfl⟩
              have HN := Lib.hid (HN10.out b1)
              have d1 : (bits.length : Int) ≤ 10 := by omega
              by_cases b2 : n1 ≤ 9600
              case neg =>
                have HF := Lib.hid (HQ.out false (fun h => by cases h))
                have d2' : decide ((n1 : Int) ≤ 9600) = false := decide_eq_false (by omega)
                clear HQ b1
                go_wp2
                go_ret
                first | exact ⟨false, rfl, HF, rfl⟩ | exact Or.inl ⟨rfl, Lib.hid trivial, rfl⟩
              have d2 : (n1 : Int) ≤ 9600 := by omega
              by_cases b3 : over.length ≤ 500
              case neg =>
                have HF := Lib.hid (HQ.out false (fun h => by cases h))
                have d3 : decide ((over.length : Int) ≤ 500) = false := decide_eq_false (by omega)
                clear HQ b1 b2
                go_wp2
                go_ret
                first | exact ⟨false, rfl, HF, rfl⟩ | exact Or.inl ⟨rfl, Lib.hid trivial, rfl⟩
              have d3 : (over.length : Int) ≤ 500 := by omega
              have HF := Lib.hid (show Small21 bits over from ⟨b1, by rw [← HN.out]; exact b2, b3⟩)
              clear b1 b2 b3 HQ
              by_cases b4 : n2 ≤ 9000
              · have d4 : (n2 : Int) ≤ 9000 := by omega
                have HT := Lib.hid (show ((true : Bool) = true → Small21 bits over) from fun _ => HF.out)
                go_wp2
                go_ret
                first | exact ⟨true, rfl, HT, rfl⟩ | exact Or.inr ⟨rfl, rfl⟩ | exact Or.inr ⟨rfl, Lib.hid HF.out, rfl⟩ | trace_state
              · have d4 : decide ((n2 : Int) ≤ 9000) = false := decide_eq_false (by omega)
                have HT := Lib.hid (show ((false : Bool) = true → Small21 bits over) from fun h => by cases h)
                go_wp2
                go_ret
                first | exact ⟨false, rfl, HT, rfl⟩ | exact Or.inl ⟨rfl, Lib.hid trivial, rfl⟩ | trace_state
end Go.Proofs.Ytcnalndhlonblaa
