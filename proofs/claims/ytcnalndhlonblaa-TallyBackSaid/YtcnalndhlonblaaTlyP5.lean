/-
  Chapter 21, plain: what was split is joined; what was joined is split. No program stands here.
-/
import Derived.Test.YtcnalndhlonblaaTlyP4
import Derived.Test.YtcnalndhlonblaaTly5
import Derived.Test.YtcnalndhlonblaaVal13
namespace Go.Proofs.Ytcnalndhlonblaa
theorem cnt_read {x : Int} (h : 3 ≤ x ∧ x ≤ 2147483647) : rdE [countP] (cntB x) = 0 ∧ rd1 countP (cntB x) = x ∧ (cntB x).length = 4 := by
  obtain ⟨n, rfl⟩ : ∃ n : Nat, x = (n : Int) := ⟨x.toNat, by omega⟩
  have hv : cntB (n : Int) = leb 4 n := by
    unfold cntB
    exact one_V countP n 4 rfl (by unfold inB countP; exact decide_eq_true ⟨by show (3:Int) ≤ n; omega, by show (n:Int) ≤ 2147483647; omega⟩)
  have hl : (leb 4 n).length = 4 := leb_len 4 n
  have hg : (getV (leb 4 n) 0 4).1 = (n : Int) := by
    have hN : getN (leb 4 n) 0 4 = n := by
      unfold getN
      show le ((leb 4 n).take 4) = n
      rw [List.take_of_length_le (by rw [hl]; exact Nat.le_refl _)]
      exact le_leb 4 n (by omega)
    unfold getV
    rw [if_pos (thereV_ok rfl (by omega) (by rw [hl]; omega)), hN, if_pos (by omega)]
  obtain ⟨h1, h2⟩ := four_ok 3 2147483647 (leb 4 n) hl (by rw [hg]; simp [inB]; omega)
  rw [hv]
  exact ⟨h2, h1.trans hg, hl⟩
theorem cnt_range {s : List UInt8} (h : rdE [countP] s = 0) : 3 ≤ rd1 countP s ∧ rd1 countP s ≤ 2147483647 := by
  by_cases hl : s.length = 4
  · cases hin : inB (4, 3, 2147483647) (getV s 0 4).1 with
    | false =>
      have := (four_out 3 2147483647 s hl hin).2
      rw [show [countP] = [(4, 3, 2147483647)] from rfl, this] at h
      cases h
    | true =>
      have h1 := (four_ok 3 2147483647 s hl hin).1
      rw [show countP = (4, 3, 2147483647) from rfl, h1]
      simpa [inB] using hin
  · have := (four_len 3 2147483647 s hl).2
    rw [show [countP] = [(4, 3, 2147483647)] from rfl, this] at h
    cases h
theorem cnt_one {s : List UInt8} (h : rdE [countP] s = 0) : cntB (rd1 countP s) = s := by
  have h1 := read_told [countP] s (good_one (good4 _ _ (by omega) (by omega))) h
  obtain ⟨n, hn⟩ := rd_one countP s
  have h2 : rd1 countP s = n := by unfold rd1; rw [hn]; rfl
  rw [hn] at h1
  rw [h2]
  exact h1
/-- chunks, put together -/
theorem chunksTo_flat (l : List Int) : ∀ k, (chunksTo l k).flatten = l.take (960 * k)
  | 0 => by simp [chunksTo]
  | k + 1 => by
    rw [chunksTo_next, List.flatten_append, chunksTo_flat l k, Nat.mul_succ, List.take_add]
    simp [chunkN]
theorem chunks_flat (l : List Int) : (chunks21 l).flatten = l := by
  unfold chunks21
  rw [chunksTo_flat, List.take_of_length_le (by unfold parts; omega)]
theorem chunks_at {l : List Int} {i : Nat} (h : i < parts l.length) : (chunks21 l).getD i [] = chunkN l i := by
  unfold chunks21 chunksTo
  rw [List.getD_eq_getElem?_getD, List.getElem?_map, List.getElem?_range h]
  rfl
theorem chunks_len (l : List Int) : (chunks21 l).length = parts l.length := by unfold chunks21; rw [chunksTo_len]
theorem chunks_form {l : List Int} (h : ∀ x ∈ l, 0 ≤ x ∧ x ≤ 3) : formB (chunks21 l) = true := by
  rw [formB_iff]
  intro i hi
  rw [chunks_len] at hi
  rw [chunks_at hi, chunks_len]
  have h1 := parts_at hi
  constructor
  · unfold okLen
    rw [decide_eq_true_iff, chunkN_len]
    refine ⟨by omega, by omega, ?_⟩
    unfold parts at *
    omega
  · unfold okElems
    rw [List.all_eq_true]
    intro x hx
    rw [decide_eq_true_iff]
    exact h x (List.mem_of_mem_drop (List.mem_of_mem_take hx))
theorem smalls_at {c : List Int} {p : Nat} (h : p < c.length) : (smalls c).getD p 0 = small (c.getD p 0) := by
  unfold smalls
  rw [List.getD_eq_getElem?_getD, List.getElem?_map, List.getElem?_eq_getElem h, List.getD_eq_getElem?_getD, List.getElem?_eq_getElem h]
  rfl
/-- the entries of a split, one by one -/
theorem ovs_at (c : List Int) : ∀ n i, i < (ovsN c n).length → ∃ p : Nat, p < n ∧ 3 ≤ c.getD p 0 ∧ (ovsN c n)[i]? = some ⟨(p : Int), cntB (c.getD p 0), 0⟩ ∧ ∀ j, j < i → keyA (ovsN c n) j < (p : Int)
  | 0, i, h => by simp [ovsN] at h
  | n + 1, i, h => by
    unfold ovsN at h ⊢
    split at h
    · rename_i h3
      rw [if_pos h3]
      rw [List.length_append, List.length_singleton] at h
      have hkey : ∀ j, j < (ovsN c n).length → keyA (ovsN c n ++ [⟨(n : Int), cntB (c.getD n 0), 0⟩]) j = keyA (ovsN c n) j := fun j hj => by
        unfold keyA
        rw [List.getD_eq_getElem?_getD, List.getElem?_append_left hj, ← List.getD_eq_getElem?_getD]
      rcases Nat.lt_or_ge i (ovsN c n).length with h1 | h1
      · obtain ⟨p, q1, q2, q3, q4⟩ := ovs_at c n i h1
        exact ⟨p, by omega, q2, by rw [List.getElem?_append_left h1]; exact q3, fun j hj => by rw [hkey j (by omega)]; exact q4 j hj⟩
      · obtain rfl : i = (ovsN c n).length := by omega
        refine ⟨n, by omega, h3, by simp, fun j hj => ?_⟩
        rw [hkey j hj]
        obtain ⟨p, q1, _, q3, _⟩ := ovs_at c n j hj
        unfold keyA
        rw [List.getD_eq_getElem?_getD, q3]
        show (p : Int) < n
        omega
    · rename_i h3
      rw [if_neg h3]
      obtain ⟨p, q1, q2, q3, q4⟩ := ovs_at c n i h
      exact ⟨p, by omega, q2, q3, q4⟩
theorem ovs_all (c : List Int) {p : Nat} (h3 : 3 ≤ c.getD p 0) : ∀ n, p < n → ∃ i, i < (ovsN c n).length ∧ keyA (ovsN c n) i = (p : Int)
  | 0, h => absurd h (by omega)
  | n + 1, h => by
    unfold ovsN
    rcases Nat.lt_or_ge p n with h1 | h1
    · obtain ⟨i, hi, hk⟩ := ovs_all c h3 n h1
      split
      · refine ⟨i, by rw [List.length_append]; omega, ?_⟩
        unfold keyA
        rw [List.getD_eq_getElem?_getD, List.getElem?_append_left hi, ← List.getD_eq_getElem?_getD]
        exact hk
      · exact ⟨i, hi, hk⟩
    · obtain rfl : p = n := by omega
      rw [if_pos h3]
      refine ⟨(ovsN c p).length, by simp, ?_⟩
      unfold keyA
      rw [List.getD_eq_getElem?_getD]
      simp
theorem small_three (x : Int) : small x = 3 ↔ 3 ≤ x := by unfold small; split <;> omega
/-- what was split is joined -/
theorem join_split {c : List Int} (hl : c.length ≤ 100000) (h : splitE c = 0) : joinE (splitB c) (splitO c) = 0 ∧ joinV (splitB c) (splitO c) = c ∧ (splitB c).flatten.length = c.length ∧ (splitB c).length ≤ c.length + 1 ∧ (splitO c).length ≤ c.length ∧
    ∀ k, k < (splitO c).length → (Lit.int .i64 (keyA (splitO c) k)).wf = true ∧ (valA (splitO c) k).length ≤ reachBytes := by
  have hr : ∀ x ∈ c, 0 ≤ x ∧ x ≤ 2147483647 := by
    unfold splitE at h
    split at h
    · rename_i hh; exact hh
    · cases h
  have hB : splitB c = chunks21 (smalls c) := by unfold splitB; rw [if_pos h]
  have hO : splitO c = ovsN c c.length := by unfold splitO; rw [if_pos h]
  rw [hB, hO]
  have hflat : (chunks21 (smalls c)).flatten = smalls c := chunks_flat _
  have hat : ∀ p, p < c.length → 0 ≤ c.getD p 0 ∧ c.getD p 0 ≤ 2147483647 := fun p hp => hr _ (by rw [List.getD_eq_getElem?_getD, List.getElem?_eq_getElem hp]; exact List.getElem_mem hp)
  have hform : formB (chunks21 (smalls c)) = true := chunks_form (fun x hx => by
    obtain ⟨y, hy, rfl⟩ := List.mem_map.1 hx
    have := hr y hy
    unfold small
    split <;> omega)
  have hopen : ∀ p : Nat, p < c.length → 3 ≤ c.getD p 0 → (p : Int) ∈ openL (smalls c) := fun p hp h3 => openL_mem.2 ⟨p, by rw [smalls_len]; exact hp, rfl, by rw [smalls_at hp]; exact (small_three _).2 h3⟩
  have herr : ∀ k, k ≤ (ovsN c c.length).length → errJ (smalls c) (ovsN c c.length) k = 0 := by
    intro k
    induction k with
    | zero => intro _; rfl
    | succ k ih =>
      intro hk
      obtain ⟨p, q1, q2, q3, q4⟩ := ovs_at c c.length k (by omega)
      have hkey : keyA (ovsN c c.length) k = (p : Int) := by unfold keyA; rw [List.getD_eq_getElem?_getD, q3]; rfl
      have hval : valA (ovsN c c.length) k = cntB (c.getD p 0) := by unfold valA; rw [List.getD_eq_getElem?_getD, q3]; rfl
      refine errJ_next (ih (by omega)) ?_
      unfold entE
      rw [hkey, hval, if_neg, if_pos (hopen p q1 q2)]
      · exact (cnt_read ⟨q2, (hat p q1).2⟩).1
      · cases k with
        | zero => show ¬ (p : Int) ≤ -1; omega
        | succ j =>
          have := q4 j (by omega)
          show ¬ (p : Int) ≤ keyA (ovsN c c.length) j
          omega
  have h0 := herr _ (Nat.le_refl _)
  have hfull := join_full (bits := chunks21 (smalls c)) (over := ovsN c c.length) hform (by rw [hflat]; exact h0) (fun p hp h3 => by
    rw [hflat] at hp h3
    rw [smalls_len] at hp
    rw [smalls_at hp, small_three] at h3
    exact ovs_all c h3 c.length hp)
  refine ⟨hfull.1, ?_, by rw [hflat, smalls_len], by rw [chunks_len, smalls_len]; unfold parts; omega, ovsN_len c _, fun k hk => ?_⟩
  · rw [hfull.2, hflat]
    apply List.ext_getElem (by rw [outJ_len, smalls_len])
    intro p h1 h2
    have e1 : (outJ (smalls c) (ovsN c c.length) (ovsN c c.length).length).getD p 0 = c.getD p 0 := by
      by_cases h3 : 3 ≤ c.getD p 0
      · obtain ⟨i, hi, hk⟩ := ovs_all c h3 c.length h2
        rw [outJ_key (by rw [smalls_len]; exact h2) h0 hi hk]
        obtain ⟨q, q1, q2, q3, _⟩ := ovs_at c c.length i hi
        have hkey : keyA (ovsN c c.length) i = (q : Int) := by unfold keyA; rw [List.getD_eq_getElem?_getD, q3]; rfl
        have hval : valA (ovsN c c.length) i = cntB (c.getD q 0) := by unfold valA; rw [List.getD_eq_getElem?_getD, q3]; rfl
        rw [hkey] at hk
        obtain rfl : q = p := by omega
        rw [hval]
        exact (cnt_read ⟨q2, (hat q q1).2⟩).2.1
      · rw [outJ_other h0 (fun i hi e => by
          obtain ⟨q, q1, q2, q3, _⟩ := ovs_at c c.length i hi
          have hkey : keyA (ovsN c c.length) i = (q : Int) := by unfold keyA; rw [List.getD_eq_getElem?_getD, q3]; rfl
          rw [hkey] at e
          obtain rfl : q = p := by omega
          exact h3 q2), smalls_at h2]
        unfold small
        rw [if_pos (by omega)]
    rw [List.getD_eq_getElem?_getD, List.getElem?_eq_getElem h1, List.getD_eq_getElem?_getD, List.getElem?_eq_getElem h2] at e1
    exact e1
  · obtain ⟨q, q1, q2, q3, _⟩ := ovs_at c c.length k hk
    have hkey : keyA (ovsN c c.length) k = (q : Int) := by unfold keyA; rw [List.getD_eq_getElem?_getD, q3]; rfl
    have hval : valA (ovsN c c.length) k = cntB (c.getD q 0) := by unfold valA; rw [List.getD_eq_getElem?_getD, q3]; rfl
    rw [hkey, hval, (cnt_read ⟨q2, (hat q q1).2⟩).2.2]
    refine ⟨?_, by decide⟩
    simp only [Lit.wf, IntKind.min, IntKind.max, IntKind.bits, IntKind.signed]
    simp
    omega

/-- a list of parts, put together and parted again -/
theorem chunks_cons {l m : List Int} (h : l.length = 960) : chunks21 (l ++ m) = l :: chunks21 m := by
  unfold chunks21 chunksTo
  rw [List.length_append, h, show parts (960 + m.length) = parts m.length + 1 by unfold parts; omega, List.range_succ_eq_map, List.map_cons, List.map_map]
  congr 1
  · unfold chunkN
    rw [Nat.mul_zero, List.drop_zero, List.take_append_of_le_length (by omega), List.take_of_length_le (by omega)]
  · apply List.map_congr_left
    intro k _
    show chunkN (l ++ m) (k + 1) = chunkN m k
    unfold chunkN
    rw [show 960 * (k + 1) = l.length + 960 * k by omega, List.drop_append, List.drop_eq_nil_of_le (by omega), List.nil_append, Nat.add_sub_cancel_left]
theorem chunks_one {l : List Int} (h : l.length ≤ 960) (h0 : l.length ≠ 0) : chunks21 l = [l] := by
  unfold chunks21 chunksTo
  rw [show parts l.length = 1 by unfold parts; omega]
  show [chunkN l 0] = [l]
  unfold chunkN
  rw [Nat.mul_zero, List.drop_zero, List.take_of_length_le h]
theorem chunks_back : ∀ {bits : List (List Int)}, (∀ i, i < bits.length → (bits.getD i []).length ≤ 960 ∧ (bits.getD i []).length ≠ 0 ∧ (i + 1 = bits.length ∨ (bits.getD i []).length = 960)) → chunks21 bits.flatten = bits
  | [], _ => rfl
  | [l], h => by
    obtain ⟨h1, h2, _⟩ := h 0 (by simp)
    rw [List.flatten_cons, List.flatten_nil, List.append_nil]
    exact chunks_one h1 h2
  | l :: l' :: r, h => by
    obtain ⟨_, _, h3⟩ := h 0 (by simp)
    have h4 : l.length = 960 := by
      rcases h3 with h3 | h3
      · simp at h3
      · exact h3
    rw [List.flatten_cons, chunks_cons h4, chunks_back (bits := l' :: r) (fun i hi => by
      obtain ⟨q1, q2, q3⟩ := h (i + 1) (by simp at hi ⊢; omega)
      refine ⟨q1, q2, ?_⟩
      rcases q3 with q3 | q3
      · left
        rw [List.length_cons] at q3
        omega
      · exact .inr q3)]
/-- keys stand in order -/
theorem key_up {b : List Int} {over : List EntL} {n : Nat} (h : errJ b over n = 0) {i j : Nat} (hij : i < j) (hj : j < n) : keyA over i < keyA over j := by
  obtain ⟨h2, h3, _⟩ := errJ_at h j hj
  have := lastK_ge h2 i hij
  omega
def zeroE (x : EntL) : EntL := ⟨x.key, x.val, 0⟩
/-- what was joined is split -/
theorem split_join {bits : List (List Int)} {over : List EntL} (h : joinE bits over = 0) : splitE (joinV bits over) = 0 ∧ splitB (joinV bits over) = bits ∧ splitO (joinV bits over) = over.map zeroE := by
  have hform : formB bits = true := by
    cases hf : formB bits with
    | true => rfl
    | false => rw [(join_form hf).1] at h; cases h
  have h0 : errJ bits.flatten over over.length = 0 := by
    unfold joinE at h
    rw [if_pos hform] at h
    split at h
    · rename_i hh; exact hh
    · exact h
  have hkeyof : ∀ p, p < bits.flatten.length → bits.flatten.getD p 0 = 3 → ∃ i, i < over.length ∧ keyA over i = (p : Int) := fun p hp h3 => by
    apply Classical.byContradiction
    intro hn
    have := (join_hole hform h0 hp h3 (fun i hi e => hn ⟨i, hi, e⟩)).1
    rw [h] at this
    cases this
  have hV := (join_full hform h0 hkeyof).2
  rw [hV]
  have hlenO : (outJ bits.flatten over over.length).length = bits.flatten.length := outJ_len _ _ _
  have hform' := (formB_iff bits).1 hform
  have hb : chunks21 bits.flatten = bits := chunks_back (fun i hi => by
    have := (hform' i hi).1
    unfold okLen at this
    exact of_decide_eq_true this)
  have hel : ∀ x ∈ bits.flatten, 0 ≤ x ∧ x ≤ 3 := fun x hx => by
    obtain ⟨l, hl, hxl⟩ := List.mem_flatten.1 hx
    obtain ⟨i, hi, rfl⟩ := List.mem_iff_getElem.1 hl
    have := (hform' i hi).2
    rw [List.getD_eq_getElem?_getD, List.getElem?_eq_getElem hi] at this
    unfold okElems at this
    rw [List.all_eq_true] at this
    exact of_decide_eq_true (this x hxl)
  generalize hbb : bits.flatten = b at *
  have hbat : ∀ p, p < b.length → 0 ≤ b.getD p 0 ∧ b.getD p 0 ≤ 3 := fun p hp => hel _ (by rw [List.getD_eq_getElem?_getD, List.getElem?_eq_getElem hp]; exact List.getElem_mem hp)
  generalize hC : outJ b over over.length = C at *
  -- what a key names, and what no key names
  have hk1 : ∀ i, i < over.length → ∃ p : Nat, p < b.length ∧ keyA over i = (p : Int) ∧ b.getD p 0 = 3 ∧ C.getD p 0 = rd1 countP (valA over i) ∧ 3 ≤ C.getD p 0 ∧ C.getD p 0 ≤ 2147483647 ∧ valA over i = cntB (C.getD p 0) := fun i hi => by
    obtain ⟨_, _, hm, hrd⟩ := errJ_at h0 i hi
    obtain ⟨p, hp, hk, h3⟩ := openL_mem.1 hm
    have hc : C.getD p 0 = rd1 countP (valA over i) := by rw [← hC]; exact outJ_key hp h0 hi hk
    refine ⟨p, hp, hk, h3, hc, ?_, ?_, ?_⟩
    · rw [hc]; exact (cnt_range hrd).1
    · rw [hc]; exact (cnt_range hrd).2
    · rw [hc]; exact (cnt_one hrd).symm
  have hk2 : ∀ p, p < b.length → (∃ i, i < over.length ∧ keyA over i = (p : Int)) ∨ ((∀ i, i < over.length → keyA over i ≠ (p : Int)) ∧ C.getD p 0 = b.getD p 0 ∧ b.getD p 0 < 3) := fun p hp => by
    by_cases he : ∃ i, i < over.length ∧ keyA over i = (p : Int)
    · exact .inl he
    · right
      have hn : ∀ i, i < over.length → keyA over i ≠ (p : Int) := fun i hi e => he ⟨i, hi, e⟩
      refine ⟨hn, by rw [← hC]; exact outJ_other h0 hn, ?_⟩
      have := hbat p hp
      by_cases h3 : b.getD p 0 = 3
      · exact absurd (hkeyof p hp h3) he
      · omega
  have hsplit := splitE_ok (c := C) (fun p hp => by
    rw [hlenO] at hp
    rcases hk2 p hp with ⟨i, hi, hk⟩ | ⟨_, h2, h3⟩
    · obtain ⟨q, _, q2, _, _, q5, q6, _⟩ := hk1 i hi
      obtain rfl : q = p := by omega
      exact ⟨by omega, q6⟩
    · have := hbat p hp
      omega)
  have hsm : smalls C = b := by
    apply List.ext_getElem (by rw [smalls_len, hlenO])
    intro p h1 h2
    have e1 : (smalls C).getD p 0 = b.getD p 0 := by
      rw [smalls_at (by rw [hlenO]; exact h2)]
      rcases hk2 p h2 with ⟨i, hi, hk⟩ | ⟨_, q2, q3⟩
      · obtain ⟨q, _, q2, q3, _, q5, q6, _⟩ := hk1 i hi
        obtain rfl : q = p := by omega
        rw [q3]
        exact (small_three _).2 q5
      · rw [q2]
        unfold small
        rw [if_pos q3]
    rw [List.getD_eq_getElem?_getD, List.getElem?_eq_getElem h1, List.getD_eq_getElem?_getD, List.getElem?_eq_getElem h2] at e1
    exact e1
  refine ⟨hsplit.1, by rw [hsplit.2.1, hsm, hb], ?_⟩
  rw [hsplit.2.2]
  have hinv : ∀ k, k ≤ C.length → ∃ m, m ≤ over.length ∧ ovsN C k = (over.take m).map zeroE ∧ (∀ i, i < m → keyA over i < (k : Int)) ∧ ∀ i, m ≤ i → i < over.length → (k : Int) ≤ keyA over i := by
    intro k
    induction k with
    | zero =>
      intro _
      refine ⟨0, Nat.zero_le _, rfl, fun i hi => absurd hi (by omega), fun i _ hi => ?_⟩
      obtain ⟨q, _, q2, _⟩ := hk1 i hi
      omega
    | succ k ih =>
      intro hk
      obtain ⟨m, m1, m2, m3, m4⟩ := ih (by omega)
      rcases hk2 k (by omega) with ⟨i, hi, hki⟩ | ⟨hn, h2, h3⟩
      · obtain ⟨q, _, q2, q3, q4, q5, q6, q7⟩ := hk1 i hi
        obtain rfl : q = k := by omega
        have him : i = m := by
          rcases Nat.lt_trichotomy i m with h1 | h1 | h1
          · have := m3 i h1; omega
          · exact h1
          · have := m4 m (Nat.le_refl _) (by omega)
            have := key_up h0 h1 hi
            omega
        subst him
        refine ⟨i + 1, by omega, ?_, fun j hj => ?_, fun j hj hjl => ?_⟩
        · have hov : ovsN C (q + 1) = ovsN C q ++ [⟨(q : Int), cntB (C.getD q 0), 0⟩] := by
            show (if 3 ≤ C.getD q 0 then ovsN C q ++ [⟨(q : Int), cntB (C.getD q 0), 0⟩] else ovsN C q) = _
            rw [if_pos q5]
          rw [hov, m2, List.take_add_one, List.getElem?_eq_getElem hi, List.map_append]
          have : zeroE over[i] = ⟨(q : Int), cntB (C.getD q 0), 0⟩ := by
            unfold keyA at q2
            unfold valA at q7
            rw [List.getD_eq_getElem?_getD, List.getElem?_eq_getElem hi] at q2 q7
            unfold zeroE
            rw [← q7, ← q2]
            rfl
          rw [← this]
          rfl
        · rcases Nat.lt_or_ge j i with h1 | h1
          · have := m3 j h1; omega
          · obtain rfl : j = i := by omega
            omega
        · have := key_up h0 (i := i) (j := j) (by omega) hjl
          omega
      · refine ⟨m, m1, ?_, fun j hj => by have := m3 j hj; omega, fun j hj hjl => ?_⟩
        · rw [← m2]
          show (if 3 ≤ C.getD k 0 then ovsN C k ++ [⟨(k : Int), cntB (C.getD k 0), 0⟩] else ovsN C k) = _
          rw [if_neg (by omega)]
        · have := m4 j hj hjl
          have := hn j hjl
          omega
  obtain ⟨m, m1, m2, m3, m4⟩ := hinv C.length (Nat.le_refl _)
  have : m = over.length := by
    apply Classical.byContradiction
    intro hne
    have h1 := m4 m (Nat.le_refl _) (by omega)
    obtain ⟨q, q1, q2, _⟩ := hk1 m (by omega)
    omega
  rw [m2, this, List.take_length]
end Go.Proofs.Ytcnalndhlonblaa
