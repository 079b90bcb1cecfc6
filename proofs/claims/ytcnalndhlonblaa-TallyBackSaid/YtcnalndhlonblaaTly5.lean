/-
  Chapter 21: the reference's Split, walked.
-/
import Derived.Test.YtcnalndhlonblaaTly4
import Derived.Laws.OwnMore
import Derived.Deep.DeepCutAuto
namespace Go.Proofs.Ytcnalndhlonblaa
open Go.RowKit
/-- lists of the call's own, the last of which grows: its row lies from Bq on, the others' below -/
def GrowL (w : World) (base Bq : Nat) (v : Value) (ls : List (List Int)) (x : List Int) : Prop :=
  ∃ vs u, w.ownsRow base 22 1 v (ls.length + 1) (vs ++ [u]) ∧ vs.length = ls.length ∧ base ≤ Bq ∧ Bq ≤ w.heap.size ∧
    (∀ (j : Nat) l, ls[j]? = some l → ∃ uj, vs[j]? = some uj ∧ w.ownsRow base 3 1 uj l.length (iv l) ∧ ∀ g, uj.ownBlock = some g → g < Bq) ∧ w.ownsRow Bq 3 1 u x.length (iv x)
theorem GrowL.own {w : World} {base Bq : Nat} {v : Value} {ls : List (List Int)} {x : List Int} (h : GrowL w base Bq v ls x) : OwnLL w base v (ls ++ [x]) := by
  obtain ⟨vs, u, h1, h2, h3, h4, h5, h6⟩ := h
  refine ⟨vs ++ [u], by rw [List.length_append]; exact h1, by simp [h2], fun j y hj => ?_⟩
  rcases Nat.lt_or_ge j ls.length with hlt | hge
  · rw [List.getElem?_append_left hlt] at hj
    obtain ⟨uj, hu, ho, _⟩ := h5 j y hj
    exact ⟨uj, by rw [List.getElem?_append_left (by omega)]; exact hu, ho⟩
  · rw [List.getElem?_append_right hge] at hj
    have hj0 : j - ls.length = 0 := by
      rcases Nat.eq_zero_or_pos (j - ls.length) with h | h
      · exact h
      · rw [List.getElem?_eq_none (by simp; omega)] at hj; cases hj
    rw [hj0] at hj
    simp at hj
    subst hj
    exact ⟨u, by rw [List.getElem?_append_right (by omega), h2, hj0]; rfl, own_mono h6 h3⟩
theorem GrowL.keep {w w' : World} {base Bq : Nat} {v : Value} {ls : List (List Int)} {x : List Int} (h : GrowL w base Bq v ls x) (hb : Below w.heap.size w w') : GrowL w' base Bq v ls x := by
  obtain ⟨vs, u, h1, h2, h3, h4, h5, h6⟩ := h
  refine ⟨vs, u, own_keep h1 hb, h2, h3, Nat.le_trans h4 hb.size, fun j y hj => ?_, own_keep h6 hb⟩
  obtain ⟨uj, hu, ho, hl⟩ := h5 j y hj
  exact ⟨uj, hu, own_keep ho hb, hl⟩
/-- a row of another type grows -/
theorem GrowL.other {w w' : World} {base Bq : Nat} {v : Value} {ls : List (List Int)} {x : List Int} (h : GrowL w base Bq v ls x) {B e s n : Nat} {z : Value} {zs : List Value} (hz : w.ownsRow B e s z n zs) (hne : 22 ≠ e) (hne2 : 3 ≠ e) (hg : w.grownBy w' z.ownBlock) : GrowL w' base Bq v ls x := by
  obtain ⟨vs, u, h1, h2, h3, h4, h5, h6⟩ := h
  refine ⟨vs, u, h1.kept hg (own_neS h1 hz hne), h2, h3, Nat.le_trans h4 hg.size, fun j y hj => ?_, h6.kept hg (own_neS h6 hz hne2)⟩
  obtain ⟨uj, hu, ho, hl⟩ := h5 j y hj
  exact ⟨uj, hu, ho.kept hg (own_neS ho hz hne2), hl⟩
/-- an empty list appended -/
theorem OwnLL.open_ {w w2 : World} {base : Nat} {v v' : Value} {ls : List (List Int)} {vs : List Value} (hB : base ≤ w.heap.size) (h1 : w.ownsRow base 22 1 v ls.length vs) (h2 : vs.length = ls.length)
    (h3 : ∀ (j : Nat) l, ls[j]? = some l → ∃ u, vs[j]? = some u ∧ w.ownsRow base 3 1 u l.length (iv l))
    (ho : w2.ownsRow base 22 1 v' (ls.length + 1) (vs ++ [.slice none 0 0])) (hg : w.grownBy w2 v.ownBlock) : GrowL w2 base w2.heap.size v' ls [] := by
  refine ⟨vs, _, ho, h2, Nat.le_trans hB hg.size, Nat.le_refl _, fun j y hj => ?_, World.ownsRow_nil _ _ _ _⟩
  obtain ⟨u, hu, hw⟩ := h3 j y hj
  exact ⟨u, hu, hw.kept hg (own_neS hw h1 (by decide)), fun g hgb => Nat.lt_of_lt_of_le (hw.lt g hgb).2 hg.size⟩
/-- the last list, opened -/
theorem GrowL.last {w : World} {base Bq : Nat} {v : Value} {ls : List (List Int)} {x : List Int} (h : GrowL w base Bq v ls x) : ∃ g c Au cu, v = .slice (some ⟨g, 0, none⟩) (ls.length + 1) c ∧ w.cell? ⟨g, ls.length, none⟩ = some (.slice Au x.length cu) ∧ w.ownsRow Bq 3 1 (.slice Au x.length cu) x.length (iv x) ∧
    ∀ (O : Obj) (w2 : World) (u' : Value) (y : Int), w2.ownsRow Bq 3 1 u' (x.length + 1) (iv x ++ [.int .i64 y]) → (w.alloc O).grownBy w2 (Value.slice Au x.length cu).ownBlock →
      w2.cell? ⟨g, ls.length, none⟩ = some (.slice Au x.length cu) ∧ w2.frozen? ⟨g, ls.length, none⟩ = false ∧ GrowL (w2.setCell ⟨g, ls.length, none⟩ u') base Bq v ls (x ++ [y]) ∧ Below base w (w2.setCell ⟨g, ls.length, none⟩ u') ∧
      ∀ {B e s n : Nat} {z : Value} {zs : List Value}, w2.ownsRow B e s z n zs → e ≠ 22 → (w2.setCell ⟨g, ls.length, none⟩ u').ownsRow B e s z n zs := by
  obtain ⟨vs, u, h1, h2, h3, h4, h5, h6⟩ := h
  obtain ⟨g, c, rfl⟩ := ownsRow_succ h1
  obtain ⟨Au, cu, rfl⟩ := own_form h6
  have hlast : (vs ++ [Value.slice Au x.length cu])[ls.length]? = some (.slice Au x.length cu) := by rw [← h2]; simp
  refine ⟨g, c, Au, cu, rfl, by rw [h1.cellAt ls.length (by omega), hlast], h6, fun O w2 u' y ho hg => ?_⟩
  have k1 := (h1.alloc O).kept hg (own_neS (h1.alloc O) (h6.alloc O) (by decide))
  obtain ⟨s1, s2⟩ := k1.stored ls.length u'
  have hB : base ≤ w.heap.size := Nat.le_trans h3 h4
  refine ⟨by rw [k1.cellAt ls.length (by omega), hlast], k1.frozenAt ls.length, ⟨vs, u', ?_, h2, h3, ?_, fun j z hj => ?_, ?_⟩, ?_, fun hz he => hz.kept s2 (own_neS hz k1 he)⟩
  · have : (vs ++ [Value.slice Au x.length cu]).set ls.length u' = vs ++ [u'] := by
      rw [← h2, List.set_append_right _ _ (Nat.le_refl _), Nat.sub_self]
      rfl
    rw [← this]
    exact s1
  · have a1 := hg.size
    have a2 := s2.size
    simp at a1
    omega
  · obtain ⟨uj, hu, hw, hl⟩ := h5 j z hj
    refine ⟨uj, hu, ((hw.alloc O).kept hg ?_).kept s2 ?_, hl⟩
    · cases hb : uj.ownBlock with
      | none => exact .inl rfl
      | some k =>
        refine .inr fun e => ?_
        have h7 := hl k hb
        have h8 := (h6.lt k e.symm).1
        omega
    · have hk := (hw.alloc O).kept hg (by
        cases hb : uj.ownBlock with
        | none => exact .inl rfl
        | some k =>
          refine .inr fun e => ?_
          have h7 := hl k hb
          have h8 := (h6.lt k e.symm).1
          omega)
      exact own_neS hk k1 (by decide)
  · rw [List.length_append, iv_append]
    exact ho.kept s2 (own_neS ho k1 (by decide))
  · refine ((below_alloc1 w O).mono hB).trans ?_
    refine ((Below.refl base (w.alloc O)).grown hg (by simp; omega) (fun k hk => Nat.le_trans h3 (h6.lt k hk).1)).trans ?_
    exact (Below.refl base w2).grown s2 (by have := hg.size; simp at this; omega) (fun k hk => by cases hk; exact (k1.lt g rfl).1)
theorem chunk_low {s : List Int} {y : Int} {j : Nat} (h : 960 * j + 960 ≤ s.length) : chunkN (s ++ [y]) j = chunkN s j := by
  unfold chunkN
  rw [List.drop_append_of_le_length (by omega), List.take_append_of_le_length (by rw [List.length_drop]; omega)]
theorem chunk_top {s : List Int} {y : Int} {j : Nat} (hj : 960 * j ≤ s.length) (h : s.length < 960 * j + 960) : chunkN (s ++ [y]) j = chunkN s j ++ [y] := by
  unfold chunkN
  rw [List.drop_append_of_le_length hj, List.take_of_length_le (by rw [List.length_append, List.length_drop]; simp; omega), List.take_of_length_le (by rw [List.length_drop]; omega)]
theorem chunkN_nil {s : List Int} {j : Nat} (h : s.length ≤ 960 * j) : chunkN s j = [] := by
  unfold chunkN
  rw [List.drop_eq_nil_of_le h]
  rfl
theorem chunksTo_low {s : List Int} {y : Int} {j : Nat} (h : 960 * j ≤ s.length) : chunksTo (s ++ [y]) j = chunksTo s j := by
  unfold chunksTo
  apply List.map_congr_left
  intro i hi
  have hi := List.mem_range.1 hi
  exact chunk_low (by omega)
/-- the lists behind k counts, as the loop has them -/
def HeadL (w : World) (base : Nat) (v : Value) (l : List Int) (k : Nat) : Prop :=
  (k % 960 = 0 → OwnLL w base v (chunksTo (smalls (l.take k)) (k / 960))) ∧ (k % 960 ≠ 0 → ∃ Bq, GrowL w base Bq v (chunksTo (smalls (l.take k)) (k / 960)) (chunkN (smalls (l.take k)) (k / 960)))
theorem HeadL.whole {w : World} {base : Nat} {v : Value} {l : List Int} (h : HeadL w base v l l.length) : OwnLL w base v (chunks21 (smalls l)) := by
  unfold HeadL at h
  rw [List.take_length] at h
  unfold chunks21
  rw [smalls_len]
  by_cases h0 : l.length % 960 = 0
  · rw [show parts l.length = l.length / 960 from by unfold parts; omega]
    exact h.1 h0
  · rw [show parts l.length = l.length / 960 + 1 from by unfold parts; omega, chunksTo_next]
    obtain ⟨Bq, hg⟩ := h.2 h0
    exact hg.own
theorem HeadL.next {w : World} {base Bq : Nat} {v : Value} {l : List Int} {k : Nat} (hk : k < l.length) (h : GrowL w base Bq v (chunksTo (smalls (l.take k)) (k / 960)) (chunkN (smalls (l.take k)) (k / 960) ++ [small (l.getD k 0)])) : HeadL w base v l (k + 1) := by
  have hl : (smalls (l.take k)).length = k := by rw [smalls_len, List.length_take]; omega
  have hs := smalls_next l hk
  unfold HeadL
  rw [hs]
  rw [← chunk_top (by omega) (by omega)] at h
  by_cases h0 : (k + 1) % 960 = 0
  · refine ⟨fun _ => ?_, fun h1 => absurd h0 h1⟩
    rw [show (k + 1) / 960 = k / 960 + 1 by omega, chunksTo_next, chunksTo_low (by omega)]
    exact h.own
  · refine ⟨fun h1 => absurd h1 h0, fun _ => ⟨Bq, ?_⟩⟩
    rw [show (k + 1) / 960 = k / 960 by omega, chunksTo_low (by omega)]
    exact h
set_option maxRecDepth 100000 in
set_option maxHeartbeats 8000000 in
theorem rsplit_any (A : Option Addr) (c : Nat) (l : List Int) (hm : l.length ≤ 65536) (w : World) (hr : Reads w w.heap.size A (iv l)) :
    Calls Try.prog 12 #[.slice A l.length c] w (GivesSplit l w) := by
  obtain ⟨ji, ji0, ji1, ji2, ji3⟩ := info_parts Try.infoInt21
  obtain ⟨je, je0, je1, je2, je3⟩ := info_parts Try.infoEnt
  obtain ⟨js, js0, js1, js2, js3⟩ := info_parts Try.infoSi
  have HR := Lib.hid hr
  have dlen : decide (65536 < l.length) = false := decide_eq_false (by omega)
  have hmi : (l.length : Int) ≤ 65536 := by omega
  clear hr
  go_enter Try.func12, Try.ntmps12
  go_wp2_with fail
  go_loopw [5, 6, 7] (fun s5 s6 s7 wr => ∃ (k : Nat) (A5 : Option Addr) (c5 : Nat) (A6 : Option Addr) (m c6 : Nat), k ≤ l.length ∧ s5 = .slice A5 (parts k) c5 ∧ s6 = .slice A6 m c6 ∧ s7 = .int .i64 k ∧ m ≤ k ∧ Hid (m = (ovsN l k).length) ∧ Hid (∀ i, i < k → 0 ≤ l.getD i 0 ∧ l.getD i 0 ≤ 2147483647) ∧ Hid (HeadL wr w.heap.size (.slice A5 (parts k) c5) l k) ∧ Hid (wr.ownsRow w.heap.size 41 3 (.slice A6 m c6) m (ev (ovsN l k))) ∧ Hid (Below w.heap.size w wr)) (fun _ _ s7 _ => l.length - (intOf s7).toNat)
  case atStart => exact ⟨0, none, 0, none, 0, 0, by omega, rfl, rfl, rfl, by omega, Lib.hid rfl, Lib.hid (fun i h => by omega), Lib.hid ⟨fun _ => OwnLL.nil _ _, fun h => absurd rfl h⟩, Lib.hid (World.ownsRow_nil _ _ _ _), Lib.hid (Below.refl _ _)⟩
  case round =>
    obtain ⟨k, A5, c5, A6, m, c6, hk, rfl, rfl, rfl, hmk, HM, HOK, HO5, HO6, HB⟩ := hrel
    by_cases hlt : k < l.length
    · have hci : (k : Int) < (l.length : Int) := by omega
      obtain ⟨ad, rfl, -, hc⟩ := (HR.out.below HB.out).at_ (k := k) (by rw [iv_len]; exact hlt)
      rw [iv_at hlt] at hc
      have HBAD := Lib.hid (fun h => splitE_bad (c := l) hlt h)
      have HV := Lib.hid (show ovsN l (k + 1) = if 3 ≤ l.getD k 0 then ovsN l k ++ [⟨k, cntB (l.getD k 0), 0⟩] else ovsN l k from rfl)
      have HNX := Lib.hid (fun (V : World) Bq v => HeadL.next (w := V) (base := w.heap.size) (Bq := Bq) (v := v) hlt)
      have HOKN := Lib.hid (fun (h : 0 ≤ l.getD k 0 ∧ l.getD k 0 ≤ 2147483647) (i : Nat) (hi : i < k + 1) => (show 0 ≤ l.getD i 0 ∧ l.getD i 0 ≤ 2147483647 from by
        rcases Nat.lt_or_ge i k with h2 | h2
        · exact HOK.out i h2
        · obtain rfl : i = k := by omega
          exact h))
      generalize l.getD k 0 = x at *
      by_cases hx0 : x < 0
      · have HE := Lib.hid (HBAD.out (.inl hx0))
        clear HBAD HV HOKN hmi hm
        go_wp2
        go_ret3
        exact GivesSplit.bad HE.out HB.out
      by_cases hxm : 2147483647 < x
      · have HE := Lib.hid (HBAD.out (.inr hxm))
        have d0 : decide (x < 0) = false := decide_eq_false hx0
        clear HBAD HV HOKN hmi hm hx0
        go_wp2
        go_ret3
        exact GivesSplit.bad HE.out HB.out
      have d0 : decide (x < 0) = false := decide_eq_false hx0
      have d1 : decide (2147483647 < x) = false := decide_eq_false hxm
      have HOKK := Lib.hid (HOKN.out ⟨by omega, by omega⟩)
      clear HBAD HOKN HOK
      go_upto_region 11 with fail
      go_upto_if 30 with fail
      obtain ⟨j, hj⟩ : ∃ j, j = k / 960 := ⟨_, rfl⟩
      obtain ⟨ls, hls⟩ : ∃ ls, ls = chunksTo (smalls (l.take k)) (k / 960) := ⟨_, rfl⟩
      obtain ⟨xx, hxx⟩ : ∃ xx, xx = chunkN (smalls (l.take k)) (k / 960) := ⟨_, rfl⟩
      have hll : ls.length = j := by rw [hls, chunksTo_len, hj]
      have HLL := Lib.hid hll
      have hsk : (smalls (l.take k)).length = k := by rw [smalls_len, List.length_take]; omega
      have HXN := Lib.hid (show k % 960 = 0 → xx = [] from fun h0 => by rw [hxx]; exact chunkN_nil (by rw [hsk]; omega))
      have HXL := Lib.hid (show xx.length ≤ 959 from by rw [hxx, chunkN_len, hsk]; omega)
      have HHD := Lib.hid (show (k % 960 = 0 → OwnLL wr w.heap.size (.slice A5 (parts k) c5) ls) ∧ (k % 960 ≠ 0 → ∃ Bq, GrowL wr w.heap.size Bq (.slice A5 (parts k) c5) ls xx) from by rw [hls, hxx]; exact HO5.out)
      rw [← hls, ← hxx] at HNX
      have HJ := Lib.hid hj
      clear hls hxx hll hsk hj HO5
      go_cut [5, 31, 32, 33] (fun s5 _ _ _ wx => ∃ A c Bq, s5 = .slice A (j + 1) c ∧ Hid (GrowL wx w.heap.size Bq (.slice A (j + 1) c) ls xx) ∧ Hid (wx.ownsRow w.heap.size 41 3 (.slice A6 m c6) m (ev (ovsN l k))) ∧ Hid (Below w.heap.size w wx))
      case first =>
        by_cases h0 : k % 960 = 0
        · have hm0 : (k : Int) % 960 = 0 := by omega
          have hp : parts k = j := by rw [HJ.out]; unfold parts; omega
          have hx0' := HXN.out h0
          subst hx0'
          have hO := HHD.out.1 h0
          rw [hp] at hO ⊢
          obtain ⟨vs, o1, o2, o3⟩ := hO
          rw [HLL.out] at o1 o2
          have o1a := o1.alloc (.cells #[.slice none 0 0] 22)
          have hsB : w.heap.size ≤ (wr.alloc (.cells #[.slice none 0 0] 22)).heap.size := by have := HB.out.size; simp; omega
          have hj65 : j ≤ 100 := by rw [HJ.out]; omega
          have HO3 := Lib.hid (fun (q : Nat) (z : List Int) (hq : ls[q]? = some z) => (show ∃ u, vs[q]? = some u ∧ (wr.alloc (.cells #[.slice none 0 0] 22)).ownsRow w.heap.size 3 1 u z.length (iv z) from by
            obtain ⟨u, hu, hw⟩ := o3 q z hq
            exact ⟨u, hu, hw.alloc _⟩))
          have HO1 := Lib.hid (And.intro o1a o2)
          clear o1 o2 o3 h0 hp HHD hc
          go_wp2_with (at_builtin; refine wpList_append_to _ rfl (.tmp 31) (.tmp 32) _ rfl w.heap.size 22 js _ 24 Try.underlying24 js0 js1 js2 js3 rfl _ j vs rfl o1a _ _ 1 1 [.slice none 0 0] rfl rfl (Reads.new wr [.slice none 0 0] 22 (0, 0)) (by simp [Value.oneCell']) (by simp only [maxLen]; omega) (by omega) hsB ?_; intro A7 c7 w7 hown7 hg7 hb7 _; have HB7 := Lib.hid ((HB.out.trans ((below_alloc1 wr (.cells #[.slice none 0 0] 22)).mono HB.out.size)).trans hb7); have HG7 := Lib.hid (OwnLL.open_ hsB (by rw [HLL.out]; exact HO1.out.1) (by rw [HLL.out]; exact HO1.out.2) HO3.out (by rw [HLL.out]; exact hown7) hg7); have HE7 := Lib.hid ((HO6.out.alloc (.cells #[.slice none 0 0] 22)).kept hg7 (own_neS (HO6.out.alloc (.cells #[.slice none 0 0] 22)) o1a (by decide))); clear hown7 hg7 hb7 o1a hsB HO3)
          go_meet
          exact ⟨A7, c7, _, rfl, HG7, HE7, HB7⟩
        · have hm0 : ((k : Int) % 960 == 0) = false := by rw [beq_eq_false_iff_ne]; omega
          have hp : parts k = j + 1 := by rw [HJ.out]; unfold parts; omega
          obtain ⟨Bq, hG⟩ := HHD.out.2 h0
          rw [hp] at hG ⊢
          have HG := Lib.hid hG
          clear hG h0 hp HHD hc
          go_wp2
          go_meet
          exact ⟨A5, c5, Bq, rfl, HG, HO6, HB⟩
      case rest =>
        obtain ⟨A8, c8, Bq, rfl, HG, HO6', HB'⟩ := hcut
        clear HHD HO6 HB hc HXN
        have HO6 := HO6'
        have HB := HB'
        clear HO6' HB'
        go_upto_if 35 with fail
        go_cut [6, 8, 36, 37, 38, 39, 40, 41, 42] (fun s6 s8 _ _ _ _ _ _ _ wx => ∃ A6 m c6, s6 = .slice A6 m c6 ∧ s8 = .int .i64 (small x) ∧ m ≤ k + 1 ∧ Hid (m = (ovsN l (k + 1)).length) ∧ Hid (wx.ownsRow w.heap.size 41 3 (.slice A6 m c6) m (ev (ovsN l (k + 1)))) ∧ Hid (GrowL wx w.heap.size Bq (.slice A8 (j + 1) c8) ls xx) ∧ Hid (Below w.heap.size w wx))
        case first =>
          by_cases h3 : 3 ≤ x
          · have hsx : small x = 3 := by unfold small; rw [if_neg (by omega)]
            have HV3 := Lib.hid (show ovsN l (k + 1) = ovsN l k ++ [⟨k, cntB x, 0⟩] from by rw [HV.out, if_pos h3])
            have KC := Lib.hid (fun (V : World) => (show Calls Try.prog 35 #[.int .i64 x] V fun e w' => e = .returned (.string ⟨(cntB x).toArray⟩) ∧ Below V.heap.size V w' from rcount_any x V))
            have HSX := Lib.hid hsx
            clear HV hsx hx0 hxm
            go_wp2_with fail
            refine (KC.out _).mono ?_
            rintro e w8 ⟨rfl, hb8⟩
            have HB8 := HB.out.trans (hb8.mono HB.out.size)
            have ho6 := (own_keep_s HO6.out hb8).alloc (.cells #[.int .i64 k, .string ⟨(cntB x).toArray⟩, .int .i64 0] 41)
            have hsB : w.heap.size ≤ (w8.alloc (.cells #[.int .i64 k, .string ⟨(cntB x).toArray⟩, .int .i64 0] 41)).heap.size := by have := HB8.size; simp; omega
            have HB8a := Lib.hid (HB8.trans ((below_alloc1 w8 (.cells #[.int .i64 k, .string ⟨(cntB x).toArray⟩, .int .i64 0] 41)).mono HB8.size))
            have HG8 := Lib.hid ((HG.out.keep hb8).keep (below_alloc1 w8 (.cells #[.int .i64 k, .string ⟨(cntB x).toArray⟩, .int .i64 0] 41)))
            clear HB8 hb8 KC
            go_wp2_with (at_builtin; refine wpList_append_to_s _ rfl (.tmp 36) (.tmp 41) _ rfl w.heap.size 3 41 je _ 32 Try.underlying25 je0 je1 je2 je3 rfl (by decide) _ m (ev (ovsN l k)) rfl ho6 _ _ 1 1 [.int .i64 k, .string ⟨(cntB x).toArray⟩, .int .i64 0] rfl rfl (Reads.new w8 [.int .i64 k, .string ⟨(cntB x).toArray⟩, .int .i64 0] 41 (0, 0)) (by simp [Value.oneCell']) (by simp only [maxLen]; omega) (by omega) hsB ?_; intro A9 c9 w9 hown9 hg9 hb9 _; have HB9 := Lib.hid (HB8a.out.trans hb9); have HO9 : Hid (w9.ownsRow w.heap.size 41 3 (.slice A9 (m + 1) c9) (m + 1) (ev (ovsN l (k + 1)))) := (by rw [HV3.out, ev_append]; exact Lib.hid hown9); have HG9 := Lib.hid (HG8.out.other ho6 (by decide) (by decide) hg9); clear hb9 hg9 hown9 ho6 hsB HB8a HG8)
            go_meet
            exact ⟨A9, m + 1, c9, rfl, by rw [HSX.out], by omega, Lib.hid (by rw [HV3.out, List.length_append, ← HM.out]; rfl), HO9, HG9, HB9⟩
          · have hsx : small x = x := by unfold small; rw [if_pos (by omega)]
            have HV3 := Lib.hid (show ovsN l (k + 1) = ovsN l k from by rw [HV.out, if_neg h3])
            have d3 : decide (3 ≤ x) = false := decide_eq_false h3
            have HSX := Lib.hid hsx
            clear HV hsx hx0 hxm
            go_wp2
            go_meet
            exact ⟨A6, m, c6, rfl, by rw [HSX.out], by omega, Lib.hid (by rw [HV3.out, ← HM.out]), by rw [HV3.out]; exact HO6, HG, HB⟩
        case rest =>
          obtain ⟨A9, m9, c9, rfl, rfl, hm9, HM9, HO9, HG9, HB9⟩ := hcut
          obtain ⟨g, cg, Au, cu, e8, q1, q2, HT⟩ := HG9.out.last
          rw [HLL.out] at e8 q1 HT
          injection e8 with e8 _ e9
          subst e8 e9
          have HTT := Lib.hid HT
          have hQ := HXL.out
          have eJ : (k : Int) / 960 = (j : Int) := by rw [HJ.out]; omega
          have HNX2 := Lib.hid (fun V v => HNX.out V Bq v)
          generalize small x = sx at *
          have hsB : Bq ≤ (wc.alloc (.cells #[.int .i64 sx] 3)).heap.size := by
            obtain ⟨_, _, _, _, _, h4, _⟩ := HG9.out
            simp
            omega
          have q2a := q2.alloc (.cells #[.int .i64 sx] 3)
          have i1 : (j : Int) < (j : Int) + 1 := by omega
          have i2 : j < j + 1 := by omega
          have HPJ := Lib.hid (show parts (k + 1) = j + 1 from by rw [HJ.out]; unfold parts; omega)
          clear HNX HT HG HO6 HB HG9 HXL q2 HJ
          go_wp2_with (at_builtin; refine wpList_append_to _ rfl (.tmp 50) (.tmp 52) _ rfl Bq 3 ji _ 8 Try.underlying22 ji0 ji1 ji2 ji3 rfl _ xx.length (iv xx) rfl q2a _ _ 1 1 [.int .i64 sx] rfl rfl (Reads.new wc [.int .i64 sx] 3 (0, 0)) (by simp [Value.oneCell']) (by simp only [maxLen]; omega) (by omega) hsB ?_; intro A7 c7 w7 hown7 hg7 hb7 _; obtain ⟨t1, t2, t3, t4, t5⟩ := HTT.out _ w7 _ sx hown7 hg7; have HT3 := Lib.hid (HNX2.out _ _ t3); have HT4 := Lib.hid t4; have HE7 := Lib.hid (t5 ((HO9.out.alloc (.cells #[.int .i64 sx] 3)).kept hg7 (own_neS (HO9.out.alloc (.cells #[.int .i64 sx] 3)) q2a (by decide))) (by decide)); clear t3 t4 t5 hown7 hg7 hb7 q2a hsB)
          go_roundw
          case rel => exact ⟨k + 1, some ⟨g, 0, none⟩, c8, A9, m9, c9, by omega, by rw [HPJ.out], rfl, by go_num, hm9, HM9, HOKK, by rw [HPJ.out]; exact HT3, HE7, Lib.hid (HB9.out.trans HT4.out)⟩
          case measure => simp [intOf]; omega
    · obtain rfl : k = l.length := by omega
      have HE := Lib.hid (splitE_ok HOK.out)
      have HW := Lib.hid HO5.out.whole
      have HPN := Lib.hid (show (chunks21 (smalls l)).length = parts l.length from by unfold chunks21; rw [chunksTo_len, smalls_len])
      clear hlt hk HOK dlen
      go_wp2
      go_ret3
      obtain ⟨A8, c8, e8, hls⟩ := HW.out.lists
      rw [HPN.out] at e8
      injection e8 with e8 _ e9
      subst e8 e9
      refine ⟨A5, c5, A6, c6, ?_, ?_, ?_, HB.out⟩
      · rw [HE.out.1, HE.out.2.1, HE.out.2.2, ← HM.out, HPN.out]
        rfl
      · rw [HE.out.2.1]
        exact hls
      · rw [HE.out.2.2]
        exact Ents.of_own HM.out HO6.out
end Go.Proofs.Ytcnalndhlonblaa
