/-
  What package refs' functions without iterators do, walked.
-/
import Derived.Test.YtnebmkkaobedaaaSame
namespace Go.Proofs.Ytnebmkkaobedaaa
open Go.RowKit

/-- a copy of ints of the call's own -/
theorem cloneI_any (A : Option Addr) (c : Nat) (l : List Int) (w : World) (B : Nat) (hB : B ≤ w.heap.size) (hm : l.length * 8 ≤ reachBytes) (h : Reads w B A (iv l)) :
    Calls Try.prog 66 #[.slice A l.length c] w (Gives 3 (iv l) w) := by
  simp only [reachBytes] at hm
  obtain ⟨i0, hi, hz0, hz1, hz2⟩ := info_parts Try.infoI64
  have hown0 := World.ownsRow_lit (e := 3) (size := 1) (base := w.heap.size) w #[] 0 (Nat.le_refl _) (by simp) (by rfl)
  cases A with
  | none =>
    have h0 : l = [] := by
      rcases l with _ | ⟨b, l⟩
      · rfl
      · obtain ⟨_, h, _⟩ := h (by simp [iv]); cases h
    subst h0
    have he := fun w => Lib.run_eql_slice_nil (P := Try.prog) w 42
    go_enter Try.func66, Try.ntmps66
    go_wp2_with fail
    go_ret
    exact ⟨none, 0, rfl, World.ownsRow_nil _ _ _ _, Below.refl _ _⟩
  | some ad =>
    have he := fun w => Lib.run_eql_slice_nil (P := Try.prog) w 42
    go_enter Try.func66, Try.ntmps66
    go_wp2_with (at_builtin; refine wpList_append_to _ rfl (.tmp 5) (.tmp 6) _ rfl w.heap.size 3 i0 _ 8 Try.underlying42 hi hz0 hz1 hz2 rfl _ 0 [] rfl hown0 _ (some ad) l.length c (iv l) rfl (iv_len l).symm (h.alloc hB _) (iv_one _) (by simp only [maxLen]; omega) (by omega) (by simp) ?_; intro A' c' w2 hown2 hg2 hb2 _)
    simp only [Nat.zero_add, List.nil_append] at hown2
    go_ret
    exact ⟨A', c', by rw [iv_len]; simp, by rw [iv_len]; exact hown2, (below_alloc1 w _).trans hb2⟩
/-- block g is a counter: the slice in its cell reads as l, in a row of its own -/
def Cnt (w : World) (B g : Nat) (A : Option Addr) (c : Nat) (l : List Int) : Prop :=
  Boxed w g 88 (.slice A l.length c) ∧ w.ownsRow B 3 1 (.slice A l.length c) l.length (iv l) ∧ l.length ≤ 65536 ∧ B ≤ g
section
variable {w w' : World} {B g : Nat} {A : Option Addr} {c : Nat} {l : List Int}
theorem Cnt.below (h : Cnt w B g A c l) (hb : Below w.heap.size w w') : Cnt w' B g A c l := ⟨heap_keep h.1 hb, own_keep h.2.1 hb, h.2.2⟩
theorem Cnt.kept {row : Option Nat} (h : Cnt w B g A c l) (hg : w.grownBy w' row) (h1 : row ≠ some g) (h2 : (Value.slice A l.length c).ownBlock = none ∨ (Value.slice A l.length c).ownBlock ≠ row) : Cnt w' B g A c l :=
  ⟨h.1.kept hg (fun e => h1 e.symm), h.2.1.kept hg h2, h.2.2⟩
theorem Cnt.cell (h : Cnt w B g A c l) : w.cell? ⟨g, 0, none⟩ = some (.slice A l.length c) := h.1.cell
theorem Cnt.reads (h : Cnt w B g A c l) : Reads w w.heap.size A (iv l) := Reads.of_own h.2.1
theorem Cnt.form (h : Cnt w B g A c l) (hL : 0 < l.length) : ∃ h0, A = some ⟨h0, 0, none⟩ ∧ l.length ≤ c := by
  rcases h.2.1.2 with ⟨hv, hz⟩ | ⟨g', cap, cur, hv, _, _, hnc, _⟩
  · omega
  · injection hv with e1 e2 e3
    exact ⟨g', e1, by omega⟩
end
theorem made_nums (n : Nat) : (madeCells (Value.int .i64 0).cells (n * 1)).toList = iv (List.replicate n 0) := by
  rw [Nat.mul_one]
  apply List.ext_getElem
  · simp [madeCells, iv]
  · intro i h1 h2
    simp [madeCells, iv, Value.cells, Nat.mod_one]
theorem cnew_ok (n : Nat) (hn : n ≤ 65536) (w : World) :
    Calls Try.prog 36 #[.int .i64 n] w fun e w' => ∃ g A c, e = .returned (.tuple #[.pointer (some ⟨g, 0, none⟩), .int .i64 0]) ∧ Cnt w' w.heap.size g A c (List.replicate n 0) ∧ Below w.heap.size w w' := by
  obtain ⟨i0, hi, hz0, hz1, hz2⟩ := info_parts Try.infoI64
  have d1 : decide ((n : Int) < 0) = false := decide_eq_false (by omega)
  have d2 : decide ((65536 : Int) < n) = false := decide_eq_false (by omega)
  go_enter Try.func36, Try.ntmps36
  go_wp2_with (at_make; refine wpList_make_full _ rfl (.tmp 10) (.tmp 10) _ rfl w.heap.size 3 i0 _ 1 Try.underlying42 hi hz0 hz1 .i64 .i64 n n n rfl rfl rfl rfl (by rw [hz2]; omega) (by simp only [maxLen]; omega) (Nat.le_refl _) ?_; intro w1 hown hg)
  rw [made_nums] at hown
  have hB : Below w.heap.size w w1 := (Below.refl _ _).grown hg (Nat.le_refl _) (fun k hk => by cases hk)
  go_ret2
  refine ⟨w1.heap.size, some ⟨w.heap.size, 0, none⟩, n, rfl, ⟨?_, ?_, ?_, hB.size⟩, hB.alloc hB.size _⟩
  · rw [List.length_replicate]; exact Boxed.new _ _ _
  · rw [List.length_replicate]; exact hown.alloc _
  · rw [List.length_replicate]; omega
theorem cnew_bad (n : Int) (hn : n < 0 ∨ 65536 < n) (w : World) :
    Calls Try.prog 36 #[.int .i64 n] w fun e w' => e = .returned (.tuple #[.pointer none, .int .i64 2]) ∧ w = w' := by
  by_cases h0 : n < 0
  · have d1 : decide (n < 0) = true := decide_eq_true h0
    clear hn
    go_enter Try.func36, Try.ntmps36
    go_wp2
    go_ret2
    exact ⟨rfl, rfl⟩
  · have d1 : decide (n < 0) = false := decide_eq_false h0
    have d2 : decide (65536 < n) = true := decide_eq_true (by omega)
    clear hn
    go_enter Try.func36, Try.ntmps36
    go_wp2
    go_ret2
    exact ⟨rfl, rfl⟩
theorem own_any {w : World} {B g : Nat} {A : Option Addr} {c : Nat} {l : List Int} (h : Cnt w B g A c l) :
    Calls Try.prog 67 #[.pointer (some ⟨g, 0, none⟩)] w fun e w' => e = .returned (.slice A l.length c) ∧ w = w' := by
  have hc := h.cell
  clear h
  go_enter Try.func67, Try.ntmps67
  go_wp2
  go_ret
  exact ⟨rfl, rfl⟩
theorem own_none (w : World) : Calls Try.prog 67 #[.pointer none] w fun e w' => e = .returned (.slice none 0 0) ∧ w = w' := by
  go_enter Try.func67, Try.ntmps67
  go_wp2
  go_ret
  exact ⟨rfl, rfl⟩
theorem list_any {w : World} {B g : Nat} {A : Option Addr} {c : Nat} {l : List Int} (h : Cnt w B g A c l) :
    Calls Try.prog 37 #[.pointer (some ⟨g, 0, none⟩)] w (Gives 3 (iv l) w) := by
  have ho := own_any h
  have hr := cloneI_any A c l w _ (Nat.le_refl _) (by have := h.2.2.1; simp only [reachBytes]; omega) h.reads
  clear h
  go_enter Try.func37, Try.ntmps37
  go_wp2_with fail
  refine ho.mono ?_
  rintro e w2 ⟨rfl, rfl⟩
  clear ho
  go_wp2_with fail
  refine hr.mono ?_
  rintro e w2 ⟨A2, c2, rfl, hown, hb⟩
  clear hr
  go_wp2
  go_ret
  exact ⟨A2, c2, rfl, hown, hb⟩
theorem cloneI_nil (w : World) : Calls Try.prog 66 #[.slice none 0 0] w fun e w' => e = .returned (.slice none 0 0) ∧ w = w' := by
  have he := fun w => Lib.run_eql_slice_nil (P := Try.prog) w 42
  go_enter Try.func66, Try.ntmps66
  go_wp2_with fail
  go_ret
  exact ⟨rfl, rfl⟩
theorem list_none (w : World) : Calls Try.prog 37 #[.pointer none] w fun e w' => e = .returned (.slice none 0 0) ∧ w = w' := by
  have ho := own_none w
  go_enter Try.func37, Try.ntmps37
  go_wp2_with fail
  refine ho.mono ?_
  rintro e w2 ⟨rfl, rfl⟩
  clear ho
  go_wp2_with fail
  refine (cloneI_nil _).mono ?_
  rintro e w2 ⟨rfl, rfl⟩
  go_wp2
  go_ret
  exact ⟨rfl, rfl⟩
theorem len_any {w : World} {B g : Nat} {A : Option Addr} {c : Nat} {l : List Int} (h : Cnt w B g A c l) :
    Calls Try.prog 60 #[.pointer (some ⟨g, 0, none⟩)] w fun e w' => e = .returned (.int .i64 l.length) ∧ w = w' := by
  have ho := own_any h
  clear h
  go_enter Try.func60, Try.ntmps60
  go_wp2_with fail
  refine ho.mono ?_
  rintro e w2 ⟨rfl, rfl⟩
  go_wp2
  go_ret
  exact ⟨rfl, rfl⟩
theorem len_none (w : World) : Calls Try.prog 60 #[.pointer none] w fun e w' => e = .returned (.int .i64 0) ∧ w = w' := by
  have ho := own_none w
  go_enter Try.func60, Try.ntmps60
  go_wp2_with fail
  refine ho.mono ?_
  rintro e w2 ⟨rfl, rfl⟩
  go_wp2
  go_ret
  exact ⟨rfl, rfl⟩
/-- a count; none of what there is not -/
def cntN (l : List Int) (k : Int) : Int := if k < 0 ∨ (l.length : Int) ≤ k then 0 else l.getD k.toNat 0
/-- what Add answers, and what is behind it -/
def addE (n : Nat) (k : Int) : Int := if k < 0 ∨ (n : Int) ≤ k then 3 else 0
def addL (l : List Int) (k : Int) : List Int := if addE l.length k = 0 then l.set k.toNat (l.getD k.toNat 0 + 1) else l
def addN (l : List Int) (k : Int) : Int := if addE l.length k = 0 then l.getD k.toNat 0 + 1 else 0
theorem addL_len (l : List Int) (k : Int) : (addL l k).length = l.length := by unfold addL; split <;> simp
theorem count_any {w : World} {B g : Nat} {A : Option Addr} {c : Nat} {l : List Int} (h : Cnt w B g A c l) (k : Int) :
    Calls Try.prog 58 #[.pointer (some ⟨g, 0, none⟩), .int .i64 k] w fun e w' => e = .returned (.int .i64 (cntN l k)) ∧ w = w' := by
  have ho := own_any h
  by_cases h1 : k < 0 ∨ (l.length : Int) ≤ k
  · have hE : cntN l k = 0 := by unfold cntN; rw [if_pos h1]
    rw [hE]
    clear hE h
    by_cases h0 : k < 0
    · have d1 : decide (k < 0) = true := decide_eq_true h0
      clear h1
      go_enter Try.func58, Try.ntmps58
      go_wp2_with fail
      refine ho.mono ?_
      rintro e w2 ⟨rfl, rfl⟩
      go_wp2
      go_ret
      exact ⟨rfl, rfl⟩
    · have d1 : decide (k < 0) = false := decide_eq_false h0
      have d2 : decide ((l.length : Int) ≤ k) = true := decide_eq_true (by omega)
      clear h1
      go_enter Try.func58, Try.ntmps58
      go_wp2_with fail
      refine ho.mono ?_
      rintro e w2 ⟨rfl, rfl⟩
      go_wp2
      go_ret
      exact ⟨rfl, rfl⟩
  · obtain ⟨m, rfl⟩ := Int.eq_ofNat_of_zero_le (show 0 ≤ k by omega)
    have hm : m < l.length := by omega
    have hE : cntN l (m : Int) = l[m] := by
      unfold cntN; rw [if_neg h1, Int.toNat_natCast, List.getD_eq_getElem?_getD, List.getElem?_eq_getElem hm]; rfl
    rw [hE]
    obtain ⟨ad, rfl, _, hc⟩ := h.reads.num hm
    have d1 : decide ((m : Int) < 0) = false := decide_eq_false (by omega)
    have d2 : decide (l.length ≤ m) = false := decide_eq_false (by omega)
    have i0 : (0 : Int) ≤ (m : Int) := by omega
    have i1 : (m : Int) < (l.length : Int) := by omega
    clear hE h h1
    generalize l[m] = x at *
    go_enter Try.func58, Try.ntmps58
    go_wp2_with fail
    refine ho.mono ?_
    rintro e w2 ⟨rfl, rfl⟩
    go_wp2
    go_ret
    exact ⟨rfl, rfl⟩
theorem count_none (k : Int) (w : World) : Calls Try.prog 58 #[.pointer none, .int .i64 k] w fun e w' => e = .returned (.int .i64 0) ∧ w = w' := by
  have ho := own_none w
  by_cases h0 : k < 0
  · have d1 : decide (k < 0) = true := decide_eq_true h0
    go_enter Try.func58, Try.ntmps58
    go_wp2_with fail
    refine ho.mono ?_
    rintro e w2 ⟨rfl, rfl⟩
    go_wp2
    go_ret
    exact ⟨rfl, rfl⟩
  · have d1 : decide (k < 0) = false := decide_eq_false h0
    have d2 : decide (0 ≤ k) = true := decide_eq_true (by omega)
    go_enter Try.func58, Try.ntmps58
    go_wp2_with fail
    refine ho.mono ?_
    rintro e w2 ⟨rfl, rfl⟩
    go_wp2
    go_ret
    exact ⟨rfl, rfl⟩
theorem add_none (k : Int) (w : World) : Calls Try.prog 38 #[.pointer none, .int .i64 k] w fun e w' => e = .returned (.tuple #[.int .i64 0, .int .i64 18]) ∧ w = w' := by
  go_enter Try.func38, Try.ntmps38
  go_wp2
  go_ret2
  exact ⟨rfl, rfl⟩
theorem add_any {w : World} {B g : Nat} {A : Option Addr} {c : Nat} {l : List Int} (h : Cnt w B g A c l) (k : Int) (hb : ∀ x ∈ l, 0 ≤ x ∧ x < 9223372036854775807) :
    Calls Try.prog 38 #[.pointer (some ⟨g, 0, none⟩), .int .i64 k] w fun e w' => e = .returned (.tuple #[.int .i64 (addN l k), .int .i64 (addE l.length k)]) ∧ Cnt w' B g A c (addL l k) ∧ w.grownBy w' (Value.slice A l.length c).ownBlock := by
  have hc := h.cell
  by_cases h1 : k < 0 ∨ (l.length : Int) ≤ k
  · have hE : addE l.length k = 3 := by unfold addE; rw [if_pos h1]
    have hL : addL l k = l := by unfold addL; rw [hE, if_neg (by decide)]
    have hN : addN l k = 0 := by unfold addN; rw [hE, if_neg (by decide)]
    rw [hE, hL, hN]
    have HI := Lib.hid h
    clear hE hL hN h hb
    by_cases h0 : k < 0
    · have d1 : decide (k < 0) = true := decide_eq_true h0
      clear h1
      go_enter Try.func38, Try.ntmps38
      go_wp2
      go_ret2
      exact ⟨rfl, HI.out, World.grownBy.refl w _⟩
    · have d1 : decide (k < 0) = false := decide_eq_false h0
      have d2 : decide ((l.length : Int) ≤ k) = true := decide_eq_true (by omega)
      clear h1
      go_enter Try.func38, Try.ntmps38
      go_wp2
      go_ret2
      exact ⟨rfl, HI.out, World.grownBy.refl w _⟩
  · obtain ⟨m, rfl⟩ := Int.eq_ofNat_of_zero_le (show 0 ≤ k by omega)
    have hm : m < l.length := by omega
    have hE : addE l.length (m : Int) = 0 := by unfold addE; rw [if_neg h1]
    have hg : l.getD m 0 = l[m] := by rw [List.getD_eq_getElem?_getD, List.getElem?_eq_getElem hm]; rfl
    have hL : addL l (m : Int) = l.set m (l[m] + 1) := by unfold addL; rw [if_pos hE, Int.toNat_natCast, hg]
    have hN : addN l (m : Int) = l[m] + 1 := by unfold addN; rw [if_pos hE, Int.toNat_natCast, hg]
    rw [hE, hL, hN]
    obtain ⟨h0, rfl, hcap⟩ := h.form (by omega)
    have hcell : w.cell? ⟨h0, m, none⟩ = some (.int .i64 l[m]) := by
      rw [h.2.1.cellAt m (by omega)]
      exact iv_get l m hm
    have hfz := h.2.1.frozenAt m
    have hne := h.1.not_row (by decide) h.2.1
    obtain ⟨ho, hgr⟩ := h.2.1.stored m (.int .i64 (l[m] + 1))
    have hbk : h0 ≠ g := fun e => hne (by rw [e]; rfl)
    obtain ⟨b0, b1⟩ := hb l[m] (List.getElem_mem hm)
    have hI2 : Cnt (w.setCell ⟨h0, m, none⟩ (.int .i64 (l[m] + 1))) B g (some ⟨h0, 0, none⟩) c (l.set m (l[m] + 1)) := by
      refine ⟨by rw [List.length_set]; exact h.1.kept hgr hne, ?_, by rw [List.length_set]; exact h.2.2.1, h.2.2.2⟩
      rw [List.length_set]
      have : (iv l).set m (.int .i64 (l[m] + 1)) = iv (l.set m (l[m] + 1)) := by simp [iv, List.map_set]
      rw [← this]
      exact ho
    have d1 : decide ((m : Int) < 0) = false := decide_eq_false (by omega)
    have d2 : decide (l.length ≤ m) = false := decide_eq_false (by omega)
    have i0 : (0 : Int) ≤ (m : Int) := by omega
    have i1 : (m : Int) < (l.length : Int) := by omega
    have HI := Lib.hid hI2
    have hc2 : (w.setCell ⟨h0, m, none⟩ (.int .i64 (l[m] + 1))).cell? ⟨g, 0, none⟩ = some (.slice (some ⟨h0, 0, none⟩) l.length c) := by
      have := hI2.cell
      rwa [List.length_set] at this
    have hl := h.2.2.1
    clear hE hg hL hN h hb h1 ho hI2
    generalize l[m] = x at *
    go_enter Try.func38, Try.ntmps38
    go_wp2
    go_ret2
    exact ⟨rfl, HI.out, hgr⟩
end Go.Proofs.Ytnebmkkaobedaaa
