/-
  Chapter 21: tally.flat, walked.
-/
import Derived.Test.YtcnalndhlonblaaTly4
import Derived.Test.YtcnalndhlonblaaTly6
import Derived.Test.YtcnalndhlonblaaTlyP2
namespace Go.Proofs.Ytcnalndhlonblaa
open Go.RowKit
def GivesFlat (bits : List (List Int)) (w : World) (e : Ending) (w' : World) : Prop :=
  (formB bits = true ∧ ∃ A c b m, e = .returned (.tuple #[.slice A bits.flatten.length c, .map (some b), .bool true]) ∧ w'.ownsRow w.heap.size 3 1 (.slice A bits.flatten.length c) bits.flatten.length (iv bits.flatten) ∧ OpenM w' b m (openL bits.flatten) ∧ w.heap.size ≤ b ∧ Below w.heap.size w w') ∨
  (formB bits = false ∧ e = .returned (.tuple #[.slice none 0 0, .map none, .bool false]) ∧ Below w.heap.size w w')
set_option maxRecDepth 100000 in
set_option maxHeartbeats 8000000 in
theorem flat_any (A : Option Addr) (c : Nat) (bits : List (List Int)) (hm : bits.length ≤ 100000) (hf : bits.flatten.length ≤ 100000) (w : World) (hr : Lists w w.heap.size A bits) :
    Calls Try.prog 36 #[.slice A bits.length c] w (GivesFlat bits w) := by
  obtain ⟨ji, ji0, ji1, ji2, ji3⟩ := info_parts Try.infoInt21
  have HR := Lib.hid hr
  have hmi : (bits.length : Int) ≤ 100000 := by omega
  have HFL := Lib.hid (fun (k : Nat) (hk : k ≤ bits.length) => (show ((bits.take k).flatten).length ≤ 100000 from by
    have : ((bits.take k).flatten).length + ((bits.drop k).flatten).length = bits.flatten.length := by rw [← List.length_append, ← List.flatten_append, List.take_append_drop]
    omega))
  have HFB := Lib.hid (formB_iff bits)
  clear hr
  have hmk := run_makeMap (P := Try.prog) 70 w
  have hO0 := OpenM.made w
  have hB0 := below_alloc1 w (.map #[] 0)
  obtain ⟨n1, hn1⟩ : ∃ n1, n1 = bits.length - 1 := ⟨_, rfl⟩
  have HN1 := Lib.hid hn1
  clear hn1
  go_enter Try.func36, Try.ntmps36
  go_wp2_with fail
  clear hmk
  go_loopw [5, 15] (fun s5 s15 wr => ∃ (k N : Nat) (A5 : Option Addr) (c5 m : Nat), k ≤ bits.length ∧ s5 = .slice A5 N c5 ∧ s15 = .int .i64 k ∧ Hid (N = ((bits.take k).flatten).length) ∧ Hid (m ≤ N) ∧ Hid (∀ i, i < k → okLen bits.length i (bits.getD i []) = true ∧ okElems (bits.getD i []) = true) ∧ Hid (wr.ownsRow w.heap.size 3 1 (.slice A5 N c5) N (iv (bits.take k).flatten)) ∧ Hid (OpenM wr w.heap.size m (openL (bits.take k).flatten)) ∧ Hid (Below w.heap.size w wr)) (fun _ s15 _ => bits.length - (intOf s15).toNat)
  case atStart => exact ⟨0, 0, none, 0, 0, by omega, rfl, rfl, Lib.hid rfl, Lib.hid (Nat.le_refl _), Lib.hid (fun i h => by omega), Lib.hid (World.ownsRow_nil _ _ _ _), Lib.hid hO0, Lib.hid hB0⟩
  case round =>
    clear hO0 hB0
    obtain ⟨k, N, A5, c5, m, hk, rfl, rfl, HN, HMN, HOK, HO, HM, HB⟩ := hrel
    by_cases hlt : k < bits.length
    · have hci : (k : Int) < (bits.length : Int) := by omega
      obtain ⟨ad, rfl, hadl, hc0⟩ := HR.out (by omega)
      obtain ⟨Aj, cj, q0, r1⟩ := hc0 k _ (List.getElem?_eq_getElem hlt)
      have q1 := (HB.out.cell (p := ad.add k) (by rw [block_add]; exact hadl)).trans q0
      clear q0 hadl
      have hgl : bits[k] = bits.getD k [] := by rw [List.getD_eq_getElem?_getD, List.getElem?_eq_getElem hlt]; rfl
      rw [hgl] at q1 r1
      have HFN := Lib.hid (flat_next hlt)
      have HBL := Lib.hid (fun h => formB_len hlt h)
      have HBE := Lib.hid (fun j hj h => formB_elem (j := j) hlt hj h)
      have HOKN := Lib.hid (fun (h : okLen bits.length k (bits.getD k []) = true ∧ okElems (bits.getD k []) = true) (i : Nat) (hi : i < k + 1) => (show okLen bits.length i (bits.getD i []) = true ∧ okElems (bits.getD i []) = true from by
        rcases Nat.lt_or_ge i k with h2 | h2
        · exact HOK.out i h2
        · obtain rfl : i = k := by omega
          exact h))
      have HFL1 := Lib.hid (HFL.out (k + 1) (by omega))
      clear hc0 hgl HOK
      generalize bits.getD k [] = l at *
      have HR1 := Lib.hid (fun (V : World) (hb : Below w.heap.size w V) => (show Reads V V.heap.size Aj (iv l) → True from fun _ => trivial))
      clear HR1
      obtain ⟨lb, hlb⟩ : ∃ lb : Bool, lb = decide (k = n1) := ⟨_, rfl⟩
      have e1 : IntKind.i64.wrap ((bits.length : Int) - 1) = (n1 : Int) := by rw [HN1.out, IntKind.wrap_i64]; omega
      have d1 : ((k : Int) == (n1 : Int)) = lb := by
        rw [hlb, Bool.eq_iff_iff, beq_iff_eq, decide_eq_true_iff]
        omega
      have hlb2 : lb = true ↔ k + 1 = bits.length := by rw [hlb, decide_eq_true_iff]; have := HN1.out; omega
      have HLB := Lib.hid hlb2
      clear hlb hlb2
      by_cases c1 : 960 < l.length
      · have HF := Lib.hid (HBL.out (by unfold okLen; exact decide_eq_false (by omega)))
        have i1 : (960 : Int) < (l.length : Int) := by omega
        clear HBL HBE HOKN
        go_wp2
        go_ret3
        exact .inr ⟨HF.out, rfl, HB.out⟩
      by_cases c2 : l.length = 0
      · have HF := Lib.hid (HBL.out (by unfold okLen; exact decide_eq_false (by omega)))
        have i1 : decide (960 < l.length) = false := decide_eq_false c1
        have i2 : ((l.length : Int) == 0) = true := by rw [beq_iff_eq]; omega
        clear HBL HBE HOKN c1 
        rw [c2] at q1
        clear c2 i2 i1
        go_wp2
        go_ret3
        exact .inr ⟨HF.out, rfl, HB.out⟩
      have i1 : decide (960 < l.length) = false := decide_eq_false c1
      have i2 : ((l.length : Int) == 0) = false := by rw [beq_eq_false_iff_ne]; omega
      by_cases c3 : lb = false ∧ l.length < 960
      · obtain ⟨rfl, c4⟩ := c3
        have HF := Lib.hid (HBL.out (by
          unfold okLen
          refine decide_eq_false (fun h => ?_)
          have h5 : ¬ k + 1 = bits.length := fun h5 => by have := HLB.out.2 h5; cases this
          omega))
        have i3 : (l.length : Int) < 960 := by omega
        clear HBL HBE HOKN c1 c2
        go_wp2
        go_ret3
        exact .inr ⟨HF.out, rfl, HB.out⟩
      have HOL := Lib.hid (show okLen bits.length k l = true from by
        unfold okLen
        refine decide_eq_true ⟨by omega, c2, ?_⟩
        cases lb with
        | true => exact .inl (HLB.out.1 rfl)
        | false => exact .inr (by
          have : ¬ l.length < 960 := fun h => c3 ⟨rfl, h⟩
          omega))
      have HI1 := Lib.hid (show decide ((960 : Int) < (l.length : Int)) = false from decide_eq_false (by omega))
      have HI3 := Lib.hid (show lb = false → decide ((l.length : Int) < 960) = false from fun h => decide_eq_false (fun h2 => c3 ⟨h, by omega⟩))
      go_upto_region 7 with fail
      go_cut [41] (fun s41 wx => s41 = .bool false ∧ wx = wr)
      case first =>
        cases lb with
        | true =>
          clear HBL HBE HOKN c2 c3
          go_wp2
          go_meet
          have hs : Value.bool (decide ((960 : Int) < (l.length : Int))) = .bool false := by rw [HI1.out]
          first | exact ⟨hs, rfl⟩ | exact ⟨rfl, rfl⟩
        | false =>
          have i3 : decide (l.length < 960) = false := decide_eq_false (fun h => c3 ⟨rfl, h⟩)
          have HI4 := Lib.hid (HI3.out rfl)
          clear HBL HBE HOKN c2 c3
          go_wp2
          go_meet
          have hs : Value.bool (decide ((960 : Int) < (l.length : Int)) || decide ((l.length : Int) < 960)) = .bool false := by rw [HI1.out, HI4.out]; rfl
          exact ⟨hs, rfl⟩
      case rest =>
        obtain ⟨rfl, rfl⟩ := hcut
        have HL9 := Lib.hid (show l.length ≤ 960 by omega)
        have HRR := Lib.hid (fun (V : World) (hb : Below w.heap.size w V) => r1.below hb)
        clear c1 c2 c3 i1 i2 HBL e1 d1 r1 q1 HLB HI1 HI3
        go_wp2_with fail
        go_loopw [5, 44] (fun s5 s44 wq => ∃ (j N2 : Nat) (A5 : Option Addr) (c5 m : Nat), j ≤ l.length ∧ s5 = .slice A5 N2 c5 ∧ s44 = .int .i64 j ∧ Hid (N2 = ((bits.take k).flatten ++ l.take j).length) ∧ Hid (m ≤ N2) ∧ Hid (∀ i, i < j → 0 ≤ l.getD i 0 ∧ l.getD i 0 ≤ 3) ∧ Hid (wq.ownsRow w.heap.size 3 1 (.slice A5 N2 c5) N2 (iv ((bits.take k).flatten ++ l.take j))) ∧ Hid (OpenM wq w.heap.size m (openL ((bits.take k).flatten ++ l.take j))) ∧ Hid (Below w.heap.size w wq)) (fun _ s44 _ => l.length - (intOf s44).toNat)
        case atStart => exact ⟨0, N, A5, c5, m, by omega, rfl, rfl, by rw [List.take_zero, List.append_nil]; exact HN, HMN, Lib.hid (fun i h => by omega), by rw [List.take_zero, List.append_nil]; exact HO, by rw [List.take_zero, List.append_nil]; exact HM, HB⟩
        case round =>
          clear HN HMN HO HM HB
          obtain ⟨j, N2, A5, c5, m, hj, rfl, rfl, HN, HMN, HOK, HO, HM, HB⟩ := hrel
          by_cases hlj : j < l.length
          · have hcj : (j : Int) < (l.length : Int) := by omega
            obtain ⟨a1, rfl, -, f1⟩ := (HRR.out _ HB.out).at_ (k := j) (by rw [iv_len]; exact hlj)
            rw [iv_at hlj] at f1
            have HTN := Lib.hid (take_next hlj)
            have HBE2 := Lib.hid (fun h => HBE.out j hlj h)
            have HOKK := Lib.hid (fun (h : 0 ≤ l.getD j 0 ∧ l.getD j 0 ≤ 3) (i : Nat) (hi : i < j + 1) => (show 0 ≤ l.getD i 0 ∧ l.getD i 0 ≤ 3 from by
              rcases Nat.lt_or_ge i j with h2 | h2
              · exact HOK.out i h2
              · obtain rfl : i = j := by omega
                exact h))
            have HNL := Lib.hid (show N2 < 100000 from by
              rw [HN.out, List.length_append, List.length_take]
              have := HFL1.out
              rw [HFN.out, List.length_append] at this
              omega)
            clear HOK
            generalize l.getD j 0 = x at *
            by_cases hx0 : x < 0
            · have HF := Lib.hid (HBE2.out (.inl hx0))
              clear HBE2 HOKK HBE
              go_wp2
              go_ret3
              exact .inr ⟨HF.out, rfl, HB.out⟩
            by_cases hx3 : 3 < x
            · have HF := Lib.hid (HBE2.out (.inr hx3))
              have d0 : decide (x < 0) = false := decide_eq_false hx0
              clear HBE2 HOKK HBE hx0
              go_wp2
              go_ret3
              exact .inr ⟨HF.out, rfl, HB.out⟩
            have d0 : decide (x < 0) = false := decide_eq_false hx0
            have d3 : decide (3 < x) = false := decide_eq_false hx3
            have HOK2 := Lib.hid (HOKK.out ⟨by omega, by omega⟩)
            have hnl := HNL.out
            have HTX := Lib.hid (show (bits.take k).flatten ++ l.take (j + 1) = ((bits.take k).flatten ++ l.take j) ++ [x] from by rw [HTN.out, List.append_assoc])
            have HSN := Lib.hid (openL_snoc ((bits.take k).flatten ++ l.take j) x)
            have HNM := Lib.hid (openL_not_mem ((bits.take k).flatten ++ l.take j))
            clear HBE2 HOKK hx0 hx3 HTN HNL
            generalize (bits.take k).flatten ++ l.take j = out at *
            go_upto_if 55 with fail
            go_cut [56, 57, 58] (fun _ _ _ wx => ∃ m2, Hid (m2 ≤ N2 + 1) ∧ Hid (wx.ownsRow w.heap.size 3 1 (.slice A5 N2 c5) N2 (iv out)) ∧ Hid (OpenM wx w.heap.size m2 (openL (out ++ [x]))) ∧ Hid (Below w.heap.size w wx))
            case first =>
              by_cases h3 : x = 3
              · subst h3
                have hwf : (Lit.int .i64 (N2 : Int)).wf = true := by simp [Lit.wf, IntKind.min, IntKind.max, IntKind.bits, IntKind.signed]; omega
                have hnm : (N2 : Int) ∉ openL out := by rw [HN.out]; exact HNM.out
                have hmm : m < maxLen := by have := HMN.out; simp only [maxLen]; omega
                have HMN2 := Lib.hid (show m + 1 ≤ N2 + 1 by have := HMN.out; omega)
                have HS3 := Lib.hid (show openL (out ++ [3]) = openL out ++ [(N2 : Int)] from by rw [HSN.out, if_pos rfl, HN.out])
                go_wp2_with (at_mapUpdate; refine wpList_put_open rfl (.tmp 56) (.tmp 58) _ rfl HM.out hmm (N2 : Int) hnm hwf rfl rfl rfl ?_; intro w7 hop7 hg7; have HO7 := Lib.hid (HO.out.kept hg7 (.inr (HM.out.not_row HO.out).symm)); have HB7 := Lib.hid (HB.out.grown hg7 HB.out.size (fun q hq => by cases hq; exact Nat.le_refl _)); have HM7 : Hid (OpenM w7 w.heap.size (m + 1) (openL (out ++ [3]))) := (by rw [HS3.out]; exact Lib.hid hop7); clear hop7 hg7 hmm hnm hwf HM HO HB f1)
                go_meet
                exact ⟨m + 1, HMN2, HO7, HM7, HB7⟩
              · have d5 : (x == 3) = false := by rw [beq_eq_false_iff_ne]; exact h3
                have HS3 := Lib.hid (show openL (out ++ [x]) = openL out from by rw [HSN.out, if_neg h3])
                have HMN2 := Lib.hid (show m ≤ N2 + 1 by have := HMN.out; omega)
                clear h3 f1
                go_wp2
                go_meet
                exact ⟨m, HMN2, HO, by rw [HS3.out]; exact HM, HB⟩
            case rest =>
              obtain ⟨m2, HMN2, HO2, HM2, HB2⟩ := hcut
              have hl9 := HL9.out
              have ho2 := HO2.out.alloc (.cells #[.int .i64 x] 3)
              have hsB : w.heap.size ≤ (wc.alloc (.cells #[.int .i64 x] 3)).heap.size := by have := HB2.out.size; simp; omega
              clear f1 HSN HNM HM HO HB
              go_wp2_with (at_builtin; refine wpList_append_to _ rfl (.tmp 59) (.tmp 61) _ rfl w.heap.size 3 ji _ 8 Try.underlying22 ji0 ji1 ji2 ji3 rfl _ N2 (iv out) rfl ho2 _ _ 1 1 [.int .i64 x] rfl rfl (Reads.new wc [.int .i64 x] 3 (0, 0)) (by simp [Value.oneCell']) (by simp only [maxLen]; omega) (by omega) hsB ?_; intro A7 c7 w7 hown7 hg7 hb7 _; have HB7 := Lib.hid ((HB2.out.trans ((below_alloc1 wc (.cells #[.int .i64 x] 3)).mono HB2.out.size)).trans hb7); have HO7 : Hid (w7.ownsRow w.heap.size 3 1 (.slice A7 (N2 + 1) c7) (N2 + 1) (iv ((bits.take k).flatten ++ l.take (j + 1)))) := (by rw [HTX.out, iv_append]; exact Lib.hid hown7); have HM7 : Hid (OpenM w7 w.heap.size m2 (openL ((bits.take k).flatten ++ l.take (j + 1)))) := (by rw [HTX.out]; exact Lib.hid ((HM2.out.alloc (.cells #[.int .i64 x] 3)).kept hg7 ((HM2.out.alloc (.cells #[.int .i64 x] 3)).not_row ho2))); clear hown7 hg7 hb7 ho2 hsB HO2 HM2 HB2)
              go_roundw
              case rel => exact ⟨j + 1, N2 + 1, A7, c7, m2, by omega, rfl, by go_num, Lib.hid (by rw [HTX.out, List.length_append, ← HN.out]; rfl), HMN2, HOK2, HO7, HM7, HB7⟩
              case measure => simp [intOf]; omega
          · obtain rfl : j = l.length := by omega
            rw [List.take_length] at HN HO HM
            rw [← HFN.out] at HN HO HM
            have HOKL := Lib.hid (HOKN.out ⟨HOL.out, okElems_of HOK.out⟩)
            clear hlj hj HOK HBE HOKN
            go_wp2
            go_roundw
            case rel => exact ⟨k + 1, N2, A5, c5, m, by omega, rfl, by go_num, HN, HMN, HOKL, HO, HM, HB⟩
            case measure => simp [intOf]; omega
    · obtain rfl : k = bits.length := by omega
      have HF := Lib.hid (HFB.out.2 HOK.out)
      rw [List.take_length] at HN HO HM
      clear hlt hk HOK
      go_wp2
      go_ret3
      refine .inl ⟨HF.out, A5, c5, w.heap.size, m, ?_, ?_, HM.out, Nat.le_refl _, HB.out⟩
      · rw [← HN.out]; rfl
      · rw [← HN.out]; exact HO.out
end Go.Proofs.Ytcnalndhlonblaa
