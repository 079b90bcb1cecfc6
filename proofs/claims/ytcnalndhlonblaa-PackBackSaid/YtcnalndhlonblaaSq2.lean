/-
  Chapter 44: Runs, the program's and the reference's, walked.
-/
import Derived.Test.YtcnalndhlonblaaSq1
namespace Go.Proofs.Ytcnalndhlonblaa
open Go.RowKit Go.Shelf
theorem Try.infoI44 : (Try.prog.info? 3).map (fun i => (i.zero, i.size, i.bytes)) = some (some (.int .i64 0), 1, 8) := by kernel_rfl

section
attribute [local go_sem] Oper.semAt_some
def kvS (l : List (Nat × Nat)) : List Int := l.map fun x => (x.2 : Int)
theorem kvS_len (l : List (Nat × Nat)) : (kvS l).length = l.length := by simp [kvS]
theorem kvS_snoc (l : List (Nat × Nat)) (x : Nat × Nat) : iv (kvS (l ++ [x])) = iv (kvS l) ++ [Value.int .i64 (x.2 : Int)] := by simp [kvS, iv]
theorem own_ge' {w : World} {base g : Nat} {e : TypeId} {v : Value} {n : Nat} {xs : List Value} (h : w.ownsRow base e 1 v n xs) (hg : v.ownBlock = some g) : base ≤ g := by
  rcases h.2 with ⟨rfl, _⟩ | ⟨g', cap, cur, rfl, hb, _⟩
  · simp [Value.ownBlock] at hg
  · obtain rfl : g' = g := by simpa [Value.ownBlock] using hg
    exact hb
end
def natI (l : List Nat) : List Value := l.map fun n : Nat => .int .i64 (n : Int)
theorem natI_len (l : List Nat) : (natI l).length = l.length := by simp [natI]
theorem natI_snoc (l : List Nat) (n : Nat) : natI (l ++ [n]) = natI l ++ [Value.int .i64 (n : Int)] := by simp [natI]
theorem natI_inc (l : List Nat) : natI (incL l) = (natI l).set (l.length - 1) (.int .i64 ((l[l.length - 1]?.getD 0 : Nat) + 1 : Int)) := by
  unfold natI incL
  rw [List.map_set]
  simp
theorem stepR_len (b : List UInt8) : ∀ i, (stepR b i).length ≤ i
  | 0 => Nat.le_refl _
  | i + 1 => by
    have := stepR_len b i
    unfold stepR
    split
    · unfold incL; rw [List.length_set]; omega
    · rw [List.length_append, List.length_singleton]; omega
theorem stepR_pos (b : List UInt8) : ∀ i, 0 < i → 0 < (stepR b i).length
  | 0, h => by omega
  | i + 1, _ => by
    unfold stepR
    split
    · rename_i h
      have := stepR_pos b i h.1
      unfold incL
      rw [List.length_set]
      exact this
    · rw [List.length_append, List.length_singleton]; omega
theorem stepR_small (b : List UInt8) : ∀ i, ∀ x ∈ stepR b i, x ≤ i
  | 0, x, hx => by simp [stepR] at hx
  | i + 1, x, hx => by
    have ih := stepR_small b i
    unfold stepR at hx
    split at hx
    · unfold incL at hx
      rcases List.mem_or_eq_of_mem_set hx with h | h
      · have := ih x h; omega
      · cases hq : (stepR b i)[(stepR b i).length - 1]? with
        | none => rw [hq] at h; simp at h; omega
        | some y => rw [hq] at h; have := ih y (List.mem_of_getElem? hq); simp at h; omega
    · rcases List.mem_append.1 hx with h | h
      · have := ih x h; omega
      · simp at h; omega
theorem iv_natI (b : List UInt8) : iv (kvS (restL b 0)) = natI (stepR b b.length) := by
  rw [stepR_all]
  simp [iv, kvS, natI]
set_option maxRecDepth 100000 in
set_option maxHeartbeats 2000000 in
theorem rruns_any (A : Option Addr) (c : Nat) (b : List UInt8) (hs : b.length ≤ 6000) (w : World) (hr : Reads w w.heap.size A (bv b)) :
    Calls Try.prog 73 #[.slice A b.length c] w (Gives 3 (iv (kvS (restL b 0))) w) := by
  rw [iv_natI]
  obtain ⟨i0, hi, hz0, hz1, hz2⟩ := info_parts Try.infoI44
  go_enter Try.func73, Try.ntmps73
  go_wp2_with fail
  go_loopw [3, 4] (fun v s4 wr => ∃ (i m : Nat) (A' : Option Addr) (c' : Nat), i ≤ b.length ∧ s4 = .int .i64 i ∧ v = .slice A' m c' ∧ m = (stepR b i).length ∧ wr.ownsRow w.heap.size 3 1 (.slice A' m c') m (natI (stepR b i)) ∧ Below w.heap.size w wr) (fun _ s4 _ => b.length - (intOf s4).toNat)
  case atStart => exact ⟨0, 0, none, 0, Nat.zero_le _, rfl, rfl, rfl, World.ownsRow_nil _ _ _ _, Below.refl _ _⟩
  case round =>
    obtain ⟨i, m, A', c', hib, rfl, rfl, hm, hown, hbr⟩ := hrel
    have HM := Lib.hid hm
    have hm6 : m ≤ i := by rw [hm]; exact stepR_len b i
    clear hm
    by_cases hlt : i < b.length
    · obtain ⟨ad, hA, -, hci⟩ := (hr.below hbr).at_ (k := i) (by rw [bv_len]; exact hlt)
      replace hci : wr.cell? (ad.add i) = some (.int .u8 ((b[i]?.getD 0).toNat : Int)) := by
        rw [hci, List.getElem?_eq_getElem hlt]
        simp [bv]
      have i0' : (0 : Int) ≤ (i : Int) := by omega
      have i1 : (i : Int) < (b.length : Int) := by omega
      by_cases hinc : 0 < i ∧ b[i]? = b[i - 1]?
      · have HS := Lib.hid (show stepR b (i + 1) = incL (stepR b i) by rw [stepR, if_pos hinc])
        obtain ⟨hi0, he⟩ := hinc
        have hpos := stepR_pos b i hi0
        obtain ⟨ad', hA', -, hcj⟩ := (hr.below hbr).at_ (k := i - 1) (by rw [bv_len]; omega)
        rw [hA] at hA'
        cases hA'
        subst hA
        replace hcj : wr.cell? (ad.add (i - 1)) = some (.int .u8 ((b[i]?.getD 0).toNat : Int)) := by
          rw [hcj, he, List.getElem?_eq_getElem (by omega)]
          simp [bv]
        obtain ⟨g, rfl⟩ : ∃ g, A' = some ⟨g, 0, none⟩ := by
          obtain ⟨g, cap, hv, _, _⟩ := hown.form (by have := HM.out; omega)
          injection hv with h1
          exact ⟨g, h1⟩
        have hmem : (stepR b i)[m - 1]? = some ((stepR b i)[m - 1]?.getD 0) := by
          rw [List.getElem?_eq_getElem (by have := HM.out; omega)]
          rfl
        have hsm := stepR_small b i _ (List.mem_of_getElem? hmem)
        have HGE := Lib.hid (show (natI (stepR b i))[m - 1]? = some (.int .i64 (((stepR b i)[m - 1]?.getD 0 : Nat) : Int)) from by unfold natI; rw [List.getElem?_map, hmem]; rfl)
        have HNI := Lib.hid (natI_inc (stepR b i))
        rw [← HM.out] at HNI
        have HIL := Lib.hid (show (incL (stepR b i)).length = m by unfold incL; rw [List.length_set]; exact HM.out.symm)
        have mpos : 0 < m := by have := HM.out; omega
        have HO := Lib.hid hown
        have HB := Lib.hid hbr
        have j1 : (i : Int) - 1 = ((i - 1 : Nat) : Int) := by omega
        have j2 : (m : Int) - 1 = ((m - 1 : Nat) : Int) := by omega
        have j3 : ((i - 1 : Nat) : Int) < (b.length : Int) := by omega
        have j4 : ((m - 1 : Nat) : Int) < (m : Int) := by omega
        have j5 : (0 : Int) < (i : Int) := by omega
        clear he hpos hmem hown hbr
        generalize (stepR b i)[m - 1]?.getD 0 = q at *
        generalize (b[i]?.getD 0).toNat = y at *
        go_wp2_with fail
        go_quiet (fail)
        have hown5 := own_keep HO.out (below_drewN (Below.refl _ wr) nq)
        have hbr5 := below_drewN HB.out nq
        clear hci hcj HO HB
        generalize wr.drewN nq = w5 at *
        have hcl := hown5.cellAt (m - 1) (by omega)
        rw [HGE.out] at hcl
        have hfz := hown5.frozenAt (m - 1)
        have HST := Lib.hid (hown5.stored (m - 1) (.int .i64 ((q : Int) + 1))).1
        have HBS := Lib.hid (hbr5.setCell (p := ⟨g, m - 1, none⟩) (hown5.lt g rfl).1 (.int .i64 ((q : Int) + 1)))
        clear hown5 hbr5
        go_wp2
        go_roundw
        case rel => exact ⟨i + 1, m, some ⟨g, 0, none⟩, c', by omega, by go_num, rfl, by rw [HS.out]; exact HIL.out.symm, by rw [HS.out, HNI.out]; exact HST.out, HBS.out⟩
        case measure => simp [intOf]; omega
      · have HS := Lib.hid (show stepR b (i + 1) = stepR b i ++ [1] by rw [stepR, if_neg hinc])
        have key : i = 0 ∨ (0 < i ∧ ((((b[i]?.getD 0).toNat : Nat) : Int) == (((b[i - 1]?.getD 0).toNat : Nat) : Int)) = false) := by
          by_cases h0 : 0 < i
          · refine .inr ⟨h0, ?_⟩
            rw [beq_eq_false_iff_ne]
            intro h
            apply hinc
            refine ⟨h0, ?_⟩
            rw [List.getElem?_eq_getElem hlt, List.getElem?_eq_getElem (by omega : i - 1 < b.length)] at h ⊢
            simp only [Option.getD_some] at h
            rw [UInt8.toNat_inj.1 (by omega : b[i].toNat = b[i - 1].toNat)]
          · exact .inl (by omega)
        clear hinc
        rcases key with rfl | ⟨hi0, hne⟩
        · subst hA
          have HO := Lib.hid hown
          have HB := Lib.hid hbr
          clear hown hbr
          go_wp2_with fail
          go_quiet (fail)
          have hown5 := own_keep HO.out (below_drewN (Below.refl _ wr) nq)
          have hbr5 := below_drewN HB.out nq
          clear hci HO HB
          generalize wr.drewN nq = w5 at *
          go_wp2_with (at_builtin; refine wpList_append_to _ rfl (.tmp 33) (.tmp 34) _ rfl w.heap.size 3 i0 _ 8 Try.underlying22 hi hz0 hz1 hz2 rfl _ m (natI (stepR b 0)) rfl (hown5.alloc _) _ _ 1 1 [Value.int .i64 1] rfl rfl (Reads.new w5 [Value.int .i64 1] 3 (0, 0)) (by simp [Value.oneCell']) (by simp only [maxLen]; omega) (by omega) (by have := hbr5.size; simp; omega) ?_; intro A7 c7 w7 hown7 hg7 hb7 _; have hB7 := (hbr5.alloc hbr5.size _).trans hb7; clear hg7 hb7)
          go_roundw
          case rel => exact ⟨1, m + 1, A7, c7, by omega, by go_num, rfl, by rw [HS.out, List.length_append, ← HM.out]; rfl, by rw [HS.out, natI_snoc]; exact hown7, hB7⟩
          case measure => simp [intOf]; omega
        · obtain ⟨ad', hA', -, hcj⟩ := (hr.below hbr).at_ (k := i - 1) (by rw [bv_len]; omega)
          rw [hA] at hA'
          cases hA'
          subst hA
          replace hcj : wr.cell? (ad.add (i - 1)) = some (.int .u8 ((b[i - 1]?.getD 0).toNat : Int)) := by
            rw [hcj, List.getElem?_eq_getElem (by omega : i - 1 < b.length)]
            simp [bv]
          have j1 : (i : Int) - 1 = ((i - 1 : Nat) : Int) := by omega
          have j3 : ((i - 1 : Nat) : Int) < (b.length : Int) := by omega
          have j5 : (0 : Int) < (i : Int) := by omega
          have HO := Lib.hid hown
          have HB := Lib.hid hbr
          clear hown hbr
          generalize (b[i]?.getD 0).toNat = y at *
          generalize (b[i - 1]?.getD 0).toNat = y2 at *
          go_wp2_with fail
          go_quiet (fail)
          have hown5 := own_keep HO.out (below_drewN (Below.refl _ wr) nq)
          have hbr5 := below_drewN HB.out nq
          clear hci hcj HO HB
          generalize wr.drewN nq = w5 at *
          go_wp2_with (at_builtin; refine wpList_append_to _ rfl (.tmp 33) (.tmp 34) _ rfl w.heap.size 3 i0 _ 8 Try.underlying22 hi hz0 hz1 hz2 rfl _ m (natI (stepR b i)) rfl (hown5.alloc _) _ _ 1 1 [Value.int .i64 1] rfl rfl (Reads.new w5 [Value.int .i64 1] 3 (0, 0)) (by simp [Value.oneCell']) (by simp only [maxLen]; omega) (by omega) (by have := hbr5.size; simp; omega) ?_; intro A7 c7 w7 hown7 hg7 hb7 _; have hB7 := (hbr5.alloc hbr5.size _).trans hb7; clear hg7 hb7)
          go_roundw
          case rel => exact ⟨i + 1, m + 1, A7, c7, by omega, by go_num, rfl, by rw [HS.out, List.length_append, ← HM.out]; rfl, by rw [HS.out, natI_snoc]; exact hown7, hB7⟩
          case measure => simp [intOf]; omega
    · obtain rfl : i = b.length := by omega
      have HOWN := Lib.hid hown
      have HB := Lib.hid hbr
      clear hown hbr hr
      go_wp2
      go_ret
      exact ⟨A', c', by rw [natI_len, ← HM.out]; rfl, by rw [natI_len, ← HM.out]; exact HOWN.out, HB.out⟩
end Go.Proofs.Ytcnalndhlonblaa
