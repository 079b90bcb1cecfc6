/-
  Chapter 12: the reference's counter, walked.
-/
import Derived.Test.YtnebmkkaobedaaaRefs2
import Derived.Test.YtnebmkkaobedaaaBase7
namespace Go.Proofs.Ytnebmkkaobedaaa
open Go.RowKit

/-- how often each of n things was counted -/
def cntsL (n : Nat) (L : List Int) : List Int := (List.range n).map fun j : Nat => ((L.count (j : Int) : Nat) : Int)
theorem cntsL_len (n : Nat) (L : List Int) : (cntsL n L).length = n := by simp [cntsL]
theorem cntsL_get (n : Nat) (L : List Int) (j : Nat) (h : j < n) : (cntsL n L)[j]? = some ((L.count (j : Int) : Nat) : Int) := by simp [cntsL, h]
theorem cntsL_nil (n : Nat) : cntsL n [] = List.replicate n 0 := by
  apply List.ext_getElem?
  intro j
  by_cases h : j < n
  · rw [cntsL_get n [] j h, List.getElem?_replicate, if_pos h]; simp
  · rw [List.getElem?_eq_none (by rw [cntsL_len]; omega), List.getElem?_eq_none (by rw [List.length_replicate]; omega)]
theorem cntsL_add (n : Nat) (L : List Int) (m : Nat) (h : m < n) : (cntsL n L).set m (((L.count (m : Int) : Nat) : Int) + 1) = cntsL n (L ++ [(m : Int)]) := by
  apply List.ext_getElem?
  intro j
  by_cases hj : j < n
  · rw [cntsL_get n _ j hj, List.getElem?_set]
    split
    · rename_i he
      subst he
      rw [if_pos (by rw [cntsL_len]; exact h)]
      simp
    · rename_i he
      rw [cntsL_get n L j hj, List.count_append, List.count_cons_of_ne (by omega), List.count_nil]
      simp
  · rw [List.getElem?_eq_none (by rw [List.length_set, cntsL_len]; omega), List.getElem?_eq_none (by rw [cntsL_len]; omega)]
def RCnt (W : World) (B g n : Nat) (A : Option Addr) (c : Nat) (L : List Int) : Prop :=
  W.heap[g]? = some (.cells #[.int .i64 n, .slice A L.length c] 84) ∧ W.ownsRow B 3 1 (.slice A L.length c) L.length (iv L) ∧ (∀ x ∈ L, 0 ≤ x ∧ x < n) ∧ B ≤ g ∧ n ≤ 65536
section
variable {w w' : World} {B g n : Nat} {A : Option Addr} {c : Nat} {L : List Int}
theorem RCnt.below (h : RCnt w B g n A c L) (hb : Below w.heap.size w w') : RCnt w' B g n A c L := ⟨heap_keep h.1 hb, own_keep h.2.1 hb, h.2.2⟩
theorem RCnt.kept {row : Option Nat} (h : RCnt w B g n A c L) (hg : w.grownBy w' row) (h1 : row ≠ some g) (h2 : (Value.slice A L.length c).ownBlock = none ∨ (Value.slice A L.length c).ownBlock ≠ row) : RCnt w' B g n A c L :=
  ⟨(hg.block g (heap_lt h.1) (fun e => h1 e.symm)).trans h.1, h.2.1.kept hg h2, h.2.2⟩
theorem RCnt.n0 (h : RCnt w B g n A c L) : w.cell? ⟨g, 0, none⟩ = some (.int .i64 n) := heap_cell h.1 0 rfl
theorem RCnt.l1 (h : RCnt w B g n A c L) : w.cell? ⟨g, 1, none⟩ = some (.slice A L.length c) := heap_cell h.1 1 rfl
theorem RCnt.reads (h : RCnt w B g n A c L) : Reads w w.heap.size A (iv L) := Reads.of_own h.2.1
end
theorem rcnew_ok (n : Nat) (hn : n ≤ 65536) (w : World) :
    Calls Try.prog 56 #[.int .i64 n] w fun e w' => ∃ g, e = .returned (.tuple #[.pointer (some ⟨g, 0, none⟩), .int .i64 0]) ∧ RCnt w' w.heap.size g n none 0 [] ∧ Below w.heap.size w w' := by
  have d1 : decide ((n : Int) < 0) = false := decide_eq_false (by omega)
  have d2 : decide ((65536 : Int) < n) = false := decide_eq_false (by omega)
  go_enter Try.func56, Try.ntmps56
  go_wp2
  go_ret2
  exact ⟨w.heap.size, rfl, ⟨heap_alloc_new _ _, World.ownsRow_nil _ _ _ _, by simp, Nat.le_refl _, hn⟩, below_alloc1 _ _⟩
theorem rcnew_bad (n : Int) (hn : n < 0 ∨ 65536 < n) (w : World) :
    Calls Try.prog 56 #[.int .i64 n] w fun e w' => e = .returned (.tuple #[.pointer none, .int .i64 2]) ∧ w = w' := by
  by_cases h0 : n < 0
  · have d1 : decide (n < 0) = true := decide_eq_true h0
    clear hn
    go_enter Try.func56, Try.ntmps56
    go_wp2
    go_ret2
    exact ⟨rfl, rfl⟩
  · have d1 : decide (n < 0) = false := decide_eq_false h0
    have d2 : decide (65536 < n) = true := decide_eq_true (by omega)
    clear hn
    go_enter Try.func56, Try.ntmps56
    go_wp2
    go_ret2
    exact ⟨rfl, rfl⟩
theorem count_take (L : List Int) (k : Int) (j : Nat) (h : j < L.length) : (L.take (j + 1)).count k = (L.take j).count k + (if L[j] = k then 1 else 0) := by
  rw [take_snoc L j h, List.count_append]
  simp [List.count_cons]
set_option maxHeartbeats 1000000 in
theorem rcount_any {w : World} {B g n : Nat} {A : Option Addr} {c : Nat} {L : List Int} (h : RCnt w B g n A c L) (hl : L.length ≤ 200) (k : Int) :
    Calls Try.prog 59 #[.pointer (some ⟨g, 0, none⟩), .int .i64 k] w fun e w' => e = .returned (.int .i64 (L.count k : Nat)) ∧ w = w' := by
  have h1 := h.l1
  have hr := h.reads
  clear h
  go_enter Try.func59, Try.ntmps59
  go_wp2_with fail
  go_loopw [5, 6] (fun m i wr => ∃ j : Nat, j ≤ L.length ∧ i = .int .i64 j ∧ m = .int .i64 ((L.take j).count k : Nat) ∧ wr = w) (fun _ i _ => L.length - (intOf i).toNat)
  case atStart => exact ⟨0, Nat.zero_le _, rfl, by simp, rfl⟩
  case round =>
    obtain ⟨j, hj, rfl, rfl, hwr⟩ := hrel
    cases hwr
    by_cases hlt : j < L.length
    · obtain ⟨ad, hA, -, hc⟩ := hr.at_ (k := j) (by rw [iv_len]; exact hlt)
      subst hA
      replace hc : w.cell? (ad.add j) = some (.int .i64 L[j]) := by rw [hc]; simp [iv]
      have HC := Lib.hid (count_take L k j hlt)
      have hcl : (L.take j).count k ≤ 200 := by
        have := List.count_le_length (a := k) (l := L.take j)
        rw [List.length_take] at this
        omega
      have i0 : (0 : Int) ≤ (j : Int) := by omega
      have i1 : (j : Int) < (L.length : Int) := by omega
      by_cases he : L[j] = k
      · have d1 : (L[j] == k) = true := by simpa using he
        rw [if_pos he] at HC
        generalize (L.take j).count k = m at *
        generalize L[j] = x at *
        clear he
        go_wp2
        go_roundw
        case rel => exact ⟨j + 1, by omega, by go_num, by rw [HC.out]; go_num, trivial⟩
        case measure => simp [intOf]; omega
      · have d1 : (L[j] == k) = false := by simpa using he
        rw [if_neg he] at HC
        generalize (L.take j).count k = m at *
        generalize L[j] = x at *
        clear he
        go_wp2
        go_roundw
        case rel => exact ⟨j + 1, by omega, by go_num, by rw [HC.out, Nat.add_zero], trivial⟩
        case measure => simp [intOf]; omega
    · obtain rfl : j = L.length := by omega
      rw [List.take_length]
      clear hr
      go_wp2
      go_ret
      exact ⟨rfl, rfl⟩
theorem grown_set (W : World) (b i : Nat) (v : Value) : W.grownBy (W.setCell ⟨b, i, none⟩ v) (some b) :=
  ⟨rfl, rfl, rfl, (KeepsWalks.setCell W _ v).size, fun k _ hk => Below.heap_setCell _ _ _ k (fun e => hk (by rw [e]))⟩
def rL (n : Nat) (L : List Int) (k : Int) : List Int := if k < 0 ∨ (n : Int) ≤ k then L else L ++ [k]
def rN (n : Nat) (L : List Int) (k : Int) : Int := if k < 0 ∨ (n : Int) ≤ k then 0 else ((L ++ [k]).count k : Nat)
def rE (n : Nat) (k : Int) : Int := if k < 0 ∨ (n : Int) ≤ k then 3 else 0
set_option maxRecDepth 100000 in
set_option maxHeartbeats 2000000 in
theorem radd_any {w : World} {B g n : Nat} {A : Option Addr} {c : Nat} {L : List Int} (h : RCnt w B g n A c L) (hl : L.length < 200) (hb : B ≤ w.heap.size) (k : Int) :
    Calls Try.prog 57 #[.pointer (some ⟨g, 0, none⟩), .int .i64 k] w fun e w' => e = .returned (.tuple #[.int .i64 (rN n L k), .int .i64 (rE n k)]) ∧ (∃ A' c', RCnt w' B g n A' c' (rL n L k)) ∧ Below B w w' := by
  have h0 := h.n0
  have h1 := h.l1
  by_cases hk : k < 0 ∨ (n : Int) ≤ k
  · have hN : rN n L k = 0 := by unfold rN; rw [if_pos hk]
    have hE : rE n k = 3 := by unfold rE; rw [if_pos hk]
    have hL : rL n L k = L := by unfold rL; rw [if_pos hk]
    rw [hN, hE, hL]
    have HI := Lib.hid h
    clear h hN hE hL
    by_cases h2 : k < 0
    · have d1 : decide (k < 0) = true := decide_eq_true h2
      clear hk
      go_enter Try.func57, Try.ntmps57
      go_wp2
      go_ret2
      exact ⟨rfl, ⟨A, c, HI.out⟩, Below.refl _ _⟩
    · have d1 : decide (k < 0) = false := decide_eq_false h2
      have d2 : decide ((n : Int) ≤ k) = true := decide_eq_true (by omega)
      clear hk
      go_enter Try.func57, Try.ntmps57
      go_wp2
      go_ret2
      exact ⟨rfl, ⟨A, c, HI.out⟩, Below.refl _ _⟩
  · have hN : rN n L k = ((L ++ [k]).count k : Nat) := by unfold rN; rw [if_neg hk]
    have hE : rE n k = 0 := by unfold rE; rw [if_neg hk]
    have hL : rL n L k = L ++ [k] := by unfold rL; rw [if_neg hk]
    rw [hN, hE, hL]
    have d1 : decide (k < 0) = false := decide_eq_false (by omega)
    have d2 : decide ((n : Int) ≤ k) = false := decide_eq_false (by omega)
    obtain ⟨i0, hi, hz0, hz1, hz2⟩ := info_parts Try.infoI64
    have hrow := h.2.1
    have HX := Lib.hid (fun x (hx : x ∈ L ++ [k]) => (show 0 ≤ x ∧ x < n from by
      rcases List.mem_append.1 hx with h3 | h3
      · exact h.2.2.1 x h3
      · rw [List.mem_singleton] at h3; omega))
    have hbg := h.2.2.2.1
    have hn6 := h.2.2.2.2
    have hg0 := h.1
    have hne := not_own hg0 (by decide) hrow
    have hgl := heap_lt hg0
    have HG := Lib.hid hg0
    have hrow1 := hrow.alloc (.cells #[.int .i64 k] 3)
    clear h hk hrow hg0 hN hE hL
    go_enter Try.func57, Try.ntmps57
    go_wp2_with (at_builtin; refine wpList_append_to _ rfl (.tmp 20) (.tmp 22) _ rfl B 3 i0 _ 8 Try.underlying42 hi hz0 hz1 hz2 rfl _ L.length (iv L) rfl hrow1 _ _ 1 1 [Value.int .i64 k] rfl rfl (Reads.new w [Value.int .i64 k] 3 (0, 0)) (by simp [Value.oneCell']) (by simp only [maxLen]; omega) (by omega) (by simp; omega) ?_; intro A7 c7 w7 hown7 hg7 hb7 _; have hG7 : w7.heap[g]? = some (.cells #[.int .i64 n, .slice A L.length c] 84) := (hg7.block g (by simp; omega) hne).trans (heap_alloc' HG.out _); have hc7 := heap_cell hG7 1 rfl; have hf7 := heap_free hG7 1)
    have hG8 : (w7.setCell ⟨g, 1, none⟩ (.slice A7 (L.length + 1) c7)).heap[g]? = some (.cells #[.int .i64 n, .slice A7 (L.length + 1) c7] 84) := heap_setCell_same w7 g 1 _ _ _ hG7
    have hown8 := hown7.kept (grown_set w7 g 1 (.slice A7 (L.length + 1) c7)) (.inr (not_own hG7 (by decide) hown7).symm)
    have hR : RCnt (w7.setCell ⟨g, 1, none⟩ (.slice A7 (L.length + 1) c7)) B g n A7 c7 (L ++ [k]) := by
      refine ⟨?_, ?_, HX.out, hbg, hn6⟩
      · rw [List.length_append]; exact hG8
      · rw [List.length_append]
        have : iv (L ++ [k]) = iv L ++ [Value.int .i64 k] := by simp [iv]
        rw [this]
        exact hown8
    have hB8 : Below B w (w7.setCell ⟨g, 1, none⟩ (.slice A7 (L.length + 1) c7)) := (((Below.refl B w).alloc hb _).trans hb7).setCell (p := ⟨g, 1, none⟩) hbg _
    have k1 := rcount_any hR (by rw [List.length_append, List.length_singleton]; omega) k
    have HR := Lib.hid hR
    clear hR hG8 hown8 hG7 hown7 hg7 hb7 hc7 hf7 hrow1 hne
    refine k1.mono ?_
    rintro e w8 ⟨rfl, rfl⟩
    go_wp2
    go_ret2
    exact ⟨by simp, ⟨A7, c7, HR.out⟩, hB8⟩
set_option maxRecDepth 100000 in
set_option maxHeartbeats 2000000 in
theorem rlist_any {w : World} {B g n : Nat} {A : Option Addr} {c : Nat} {L : List Int} (h : RCnt w B g n A c L) (hl : L.length ≤ 200) :
    Calls Try.prog 61 #[.pointer (some ⟨g, 0, none⟩)] w (Gives 3 (iv (cntsL n L)) w) := by
  have h0 := h.n0
  have h1 := h.l1
  have hn6 := h.2.2.2.2
  have hgl := heap_lt h.1
  have HX := Lib.hid h.2.2.1
  have hr := h.reads
  obtain ⟨i0, hi, hz0, hz1, hz2⟩ := info_parts Try.infoI64
  clear h
  go_enter Try.func61, Try.ntmps61
  go_wp2_with (at_make; refine wpList_make_full _ rfl (.tmp 8) (.tmp 8) _ rfl w.heap.size 3 i0 _ 1 Try.underlying42 hi hz0 hz1 .i64 .i64 n n n rfl rfl rfl rfl (by rw [hz2]; omega) (by simp only [maxLen]; omega) (Nat.le_refl _) ?_; intro w1 hown hg; rw [made_nums, ← cntsL_nil] at hown; have hB1 : Below w.heap.size w w1 := (Below.refl _ _).grown hg (Nat.le_refl _) (fun k hk => by cases hk))
  have HC1 := Lib.hid (show ∀ W, Below w.heap.size w W → W.cell? ⟨g, 1, none⟩ = some (.slice A L.length c) from fun W hW => (hW.cell (p := ⟨g, 1, none⟩) hgl).trans h1)
  have HOW := Lib.hid hown
  have HB1 := Lib.hid hB1
  clear hown hg hB1 h0 h1
  go_loopw [4] (fun i wr => ∃ j : Nat, j ≤ L.length ∧ i = .int .i64 j ∧ wr.ownsRow w.heap.size 3 1 (.slice (some ⟨w.heap.size, 0, none⟩) n n) n (iv (cntsL n (L.take j))) ∧ Below w.heap.size w wr) (fun i _ => L.length - (intOf i).toNat)
  case atStart => exact ⟨0, Nat.zero_le _, rfl, HOW.out, HB1.out⟩
  case round =>
    obtain ⟨j, hj, rfl, hown, hbr⟩ := hrel
    have hc1 := HC1.out wr hbr
    by_cases hlt : j < L.length
    · obtain ⟨ad, hA, -, hc⟩ := (hr.below hbr).at_ (k := j) (by rw [iv_len]; exact hlt)
      subst hA
      replace hc : wr.cell? (ad.add j) = some (.int .i64 L[j]) := by rw [hc]; simp [iv]
      obtain ⟨hx0, hxn⟩ := HX.out L[j] (List.getElem_mem hlt)
      have HT := Lib.hid (take_snoc L j hlt)
      generalize hx : L[j] = x at *
      clear hx
      obtain ⟨m, rfl⟩ := Int.eq_ofNat_of_zero_le hx0
      have hm : m < n := by omega
      have hcell := hown.cellAt m (by omega)
      have hget : (iv (cntsL n (L.take j)))[m]? = some (.int .i64 (((L.take j).count (m : Int) : Nat) : Int)) := by
        unfold iv
        rw [List.getElem?_map, cntsL_get n _ m hm]
        rfl
      rw [hget] at hcell
      have hfz := hown.frozenAt m
      have hcl : (L.take j).count (m : Int) ≤ 200 := by
        have := List.count_le_length (a := (m : Int)) (l := L.take j)
        rw [List.length_take] at this
        omega
      have HST := Lib.hid (hown.stored m (.int .i64 ((((L.take j).count (m : Int) : Nat) : Int) + 1))).1
      have HAD := Lib.hid (cntsL_add n (L.take j) m hm)
      have HBS := Lib.hid (hbr.setCell (p := ⟨w.heap.size, m, none⟩) (Nat.le_refl _) (.int .i64 ((((L.take j).count (m : Int) : Nat) : Int) + 1)))
      have i0 : (0 : Int) ≤ (j : Int) := by omega
      have i1 : (j : Int) < (L.length : Int) := by omega
      have i2 : (0 : Int) ≤ (m : Int) := by omega
      have i3 : (m : Int) < (n : Int) := by omega
      clear hown hget hbr
      generalize hq : (L.take j).count (m : Int) = q at *
      clear hq
      go_wp2
      go_roundw
      case rel =>
        refine ⟨j + 1, by omega, by go_num, ?_, HBS.out⟩
        have he : iv (cntsL n (L.take (j + 1))) = (iv (cntsL n (L.take j))).set m (.int .i64 ((q : Int) + 1)) := by
          rw [HT.out, ← HAD.out]
          simp [iv, List.map_set]
        rw [he]
        exact HST.out
      case measure => simp [intOf]; omega
    · obtain rfl : j = L.length := by omega
      rw [List.take_length] at hown
      have HOWN := Lib.hid hown
      have HB := Lib.hid hbr
      clear hown hbr hr
      go_wp2
      go_ret
      exact ⟨some ⟨w.heap.size, 0, none⟩, n, by rw [iv_len, cntsL_len]; rfl, by rw [iv_len, cntsL_len]; exact HOWN.out, HB.out⟩
theorem kvL_yes {least : Int} {zs : List Int} {k : Nat} (h : least ≤ zs[k]?.getD 0) : iv (kvL (pickL least zs (k + 1))) = iv (kvL (pickL least zs k)) ++ [Value.int .i64 (k : Int)] := by rw [pickL_yes h, kvL_snoc]
set_option maxRecDepth 100000 in
set_option maxHeartbeats 2000000 in
theorem rfrom_any {w : World} {B g n : Nat} {A : Option Addr} {c : Nat} {L : List Int} (h : RCnt w B g n A c L) (hl : L.length ≤ 200) (least : Int) :
    Calls Try.prog 63 #[.pointer (some ⟨g, 0, none⟩), .int .i64 least] w (Gives 3 (iv (kvL (pickL least (cntsL n L) (cntsL n L).length))) w) := by
  have k1 := rlist_any h hl
  have hn6 := h.2.2.2.2
  have hlen := cntsL_len n L
  obtain ⟨i0, hi, hz0, hz1, hz2⟩ := info_parts Try.infoI64
  generalize cntsL n L = Z at *
  have HLEN := Lib.hid hlen
  go_enter Try.func63, Try.ntmps63
  go_wp2_with fail
  refine k1.mono ?_
  rintro e w1 ⟨A1, c1, rfl, hown1, hb1⟩
  rw [iv_len] at hown1
  rw [iv_len]
  have hr1 := Reads.of_own hown1
  have HB1 := Lib.hid hb1
  clear k1 h hown1 hb1
  go_wp2_with fail
  go_loopw [6, 7] (fun v i wr => ∃ (j m : Nat) (A' : Option Addr) (c' : Nat), j ≤ Z.length ∧ i = .int .i64 j ∧ v = .slice A' m c' ∧ m ≤ j ∧ wr.ownsRow w1.heap.size 3 1 (.slice A' m c') m (iv (kvL (pickL least Z j))) ∧ Below w1.heap.size w1 wr) (fun _ i _ => Z.length - (intOf i).toNat)
  case atStart => exact ⟨0, 0, none, 0, Nat.zero_le _, rfl, rfl, Nat.le_refl _, World.ownsRow_nil _ _ _ _, Below.refl _ _⟩
  case round =>
    obtain ⟨j, m, A', c', hj, rfl, rfl, hmj, hown, hbr⟩ := hrel
    by_cases hlt : j < Z.length
    · obtain ⟨ad, hA, -, hc⟩ := (hr1.below hbr).at_ (k := j) (by rw [iv_len]; exact hlt)
      subst hA
      replace hc : wr.cell? (ad.add j) = some (.int .i64 (Z[j]?.getD 0)) := by rw [hc, List.getElem?_eq_getElem hlt]; simp [iv]
      have j0 : (0 : Int) ≤ (j : Int) := by omega
      have j1 : (j : Int) < (Z.length : Int) := by omega
      by_cases hle : least ≤ Z[j]?.getD 0
      · have d1 : decide (least ≤ Z[j]?.getD 0) = true := decide_eq_true hle
        have HY := Lib.hid (kvL_yes hle)
        generalize Z[j]?.getD 0 = z at *
        clear hle
        go_wp2_with (at_builtin; refine wpList_append_to _ rfl (.tmp 22) (.tmp 24) _ rfl w1.heap.size 3 i0 _ 8 Try.underlying42 hi hz0 hz1 hz2 rfl _ m (iv (kvL (pickL least Z j))) rfl (hown.alloc _) _ _ 1 1 [Value.int .i64 (j : Int)] rfl rfl (Reads.new wr [Value.int .i64 (j : Int)] 3 (0, 0)) (by simp [Value.oneCell']) (by simp only [maxLen]; omega) (by omega) (by have := hbr.size; simp; omega) ?_; intro A7 c7 w7 hown7 hg7 hb7 _; have hB7 := (hbr.alloc hbr.size _).trans hb7; clear hg7 hb7)
        go_roundw
        case rel => exact ⟨j + 1, m + 1, A7, c7, by omega, by go_num, rfl, by omega, by rw [HY.out]; exact hown7, hB7⟩
        case measure => simp [intOf]; omega
      · have d1 : decide (least ≤ Z[j]?.getD 0) = false := decide_eq_false hle
        have HY := Lib.hid (pickL_no hle)
        generalize Z[j]?.getD 0 = z at *
        clear hle
        go_wp2
        go_roundw
        case rel => exact ⟨j + 1, m, A', c', by omega, by go_num, rfl, by omega, by rw [HY.out]; exact hown, hbr⟩
        case measure => simp [intOf]; omega
    · obtain rfl : j = Z.length := by omega
      have HOWN := Lib.hid hown
      have HBR := Lib.hid hbr
      clear hown hbr hr1
      go_wp2
      go_ret
      have hm : (iv (kvL (pickL least Z Z.length))).length = m := by have := HOWN.out.1; simpa using this
      exact ⟨A', c', by rw [hm]; rfl, by rw [hm]; exact own_mono HOWN.out HB1.out.size, below_then HB1.out HBR.out⟩
end Go.Proofs.Ytnebmkkaobedaaa
