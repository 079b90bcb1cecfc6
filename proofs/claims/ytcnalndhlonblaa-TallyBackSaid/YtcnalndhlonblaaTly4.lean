/-
  Chapter 21: tally.Split, walked.
-/
import Derived.RangeFuncCalls
import Derived.Test.YtcnalndhlonblaaTly3
import Derived.Test.YtcnalndhlonblaaVal2
namespace Go.Proofs.Ytcnalndhlonblaa
open Go.RowKit Go.Shelf
theorem Try.infoInt21 : (Try.prog.info? 3).map (fun i => (i.zero, i.size, i.bytes)) = some (some (.int .i64 0), 1, 8) := by kernel_rfl
theorem Try.infoEnt : (Try.prog.info? 41).map (fun i => (i.zero, i.size, i.bytes)) = some (some (.agg #[.int .i64 0, .string ByteArray.empty, .int .i64 0]), 3, 32) := by kernel_rfl
theorem Try.infoSi : (Try.prog.info? 22).map (fun i => (i.zero, i.size, i.bytes)) = some (some (.slice none 0 0), 1, 24) := by kernel_rfl
def GivesSplit (l : List Int) (w : World) (e : Ending) (w' : World) : Prop :=
  ∃ A1 c1 A2 c2, e = .returned (.tuple #[.slice A1 (splitB l).length c1, .slice A2 (splitO l).length c2, .int .i64 (splitE l)]) ∧ Lists w' w'.heap.size A1 (splitB l) ∧ Ents w' w'.heap.size A2 (splitO l) ∧ Below w.heap.size w w'
theorem GivesSplit.bad {l : List Int} (h : splitE l = 2 ∧ splitB l = [] ∧ splitO l = []) {w w' : World} (hb : Below w.heap.size w w') : GivesSplit l w (.returned (.tuple #[.slice none 0 0, .slice none 0 0, .int .i64 2])) w' := by
  obtain ⟨h1, h2, h3⟩ := h
  refine ⟨none, 0, none, 0, ?_, ?_, ?_, hb⟩
  · rw [h1, h2, h3]; rfl
  · rw [h2]; exact Lists.nil_ _ _ _
  · rw [h3]; exact Ents.nil_ _ _ _
theorem iv_at {l : List Int} {k : Nat} (h : k < l.length) : (iv l)[k]'(by rw [iv_len]; exact h) = .int .i64 (l.getD k 0) := by
  simp [iv, List.getD_eq_getElem?_getD, List.getElem?_eq_getElem h]
theorem own_capT {w : World} {B n c : Nat} {e : TypeId} {A : Option Addr} {xs : List Value} (h : w.ownsRow B e 1 (.slice A n c) n xs) : n ≤ c := by
  rcases h.2 with ⟨hv, hz⟩ | ⟨g', cap, cur, hv, _, _, hnc, _⟩
  · omega
  · injection hv with e1 e2 e3
    omega
theorem own_geT {w : World} {base g : Nat} {e : TypeId} {v : Value} {n : Nat} {xs : List Value} (h : w.ownsRow base e 1 v n xs) (hg : v.ownBlock = some g) : base ≤ g := (h.lt g hg).1
/-- what a round of Split owes behind its append -/
theorem split_tail {W w5 w6 : World} {f : Nat} {v u v' : Value} {ls : List (List Int)} {ch : List Int} {vs : List Value} (hf : f + 3 ≤ W.heap.size) (hv : Boxed W f 24 v)
    (o1 : W.ownsRow (f + 3) 22 1 v ls.length vs) (o2 : vs.length = ls.length) (o3 : ∀ (j : Nat) l, ls[j]? = some l → ∃ u, vs[j]? = some u ∧ W.ownsRow (f + 3) 3 1 u l.length (iv l))
    (hb5 : Below W.heap.size W w5) (hu : w5.ownsRow W.heap.size 3 1 u ch.length (iv ch)) (O : Obj)
    (ho : w6.ownsRow (f + 3) 22 1 v' (ls.length + 1) (vs ++ [u])) (hg : (w5.alloc O).grownBy w6 v.ownBlock) :
    Boxed w6 f 24 v ∧ KeepsOthers W (w6.setCell ⟨f, 0, none⟩ v') ∧ KpC f (f + 1) (f + 2) W (w6.setCell ⟨f, 0, none⟩ v') ∧ BoxLL f (f + 3) (ls ++ [ch]) (w6.setCell ⟨f, 0, none⟩ v') ∧ Below f W (w6.setCell ⟨f, 0, none⟩ v') := by
  have hv5 : Boxed w5 f 24 v := heap_keep hv hb5
  have p1 := own_keep o1 hb5
  have hs5 := hb5.size
  obtain ⟨q1, q2, q3, q4, q5⟩ := hv5.appended (n₀ := f) (by decide) (own_mono p1 (show f ≤ f + 3 by omega)) (by omega) (Nat.le_refl _) (own_mono ho (show f ≤ f + 3 by omega)) hg
  have hLL : OwnLL w6 (f + 3) v' (ls ++ [ch]) := OwnLL.snoc (p1.alloc O) o2 (fun j l hj => by
    obtain ⟨x, hx, hw⟩ := o3 j l hj
    exact ⟨x, hx, (own_keep hw hb5).alloc O⟩) ((own_mono hu hf).alloc O) ho hg
  have hblk : ∀ b, b < W.heap.size → b ≠ f → b < f + 3 → (w6.setCell ⟨f, 0, none⟩ v').heap[b]? = W.heap[b]? := fun b hb hne hlt => by
    refine (heap_setCell_other w6 ⟨f, 0, none⟩ _ _ hne).trans ((hg.block b (by simp; omega) (fun e => ?_)).trans ((Below.heap_alloc w5 _ _ (by omega)).trans (hb5.block b hb)))
    have := own_geT o1 e.symm
    omega
  refine ⟨q1, ?_, ⟨(hb5.mono (by omega)).trans q5, hblk _ (by omega) (by omega) (by omega), hblk _ (by omega) (by omega) (by omega)⟩, ⟨v', q2, hLL.kept (grownBy_setCell' w6 f v') (fun e he u n xs hw => .inr (q1.not_row (by rcases he with rfl | rfl <;> decide) hw).symm)⟩, (hb5.mono (by omega)).trans q5⟩
  exact (KeepsOthers.of_grownBy (row := none) ⟨hb5.os, hb5.tape, hb5.output, hb5.size, fun i hi _ => hb5.block i hi⟩ (fun j o e => by cases e)).trans q4
section
attribute [local go_sem] Oper.semAt_some
set_option maxRecDepth 100000 in
set_option maxHeartbeats 8000000 in
theorem split_in (n : Nat) (hn : 3 ≤ n) (A : Option Addr) (c : Nat) (l : List Int) (hm : l.length ≤ 65536) (w : World) (hr : Reads w w.heap.size A (iv l)) :
    CallsIn Fence.wide n Try.prog 11 #[.slice A l.length c] w (GivesSplit l w) := by
  have h1 : 1 ≤ n := by omega
  obtain ⟨ji, ji0, ji1, ji2, ji3⟩ := info_parts Try.infoInt21
  obtain ⟨je, je0, je1, je2, je3⟩ := info_parts Try.infoEnt
  obtain ⟨js, js0, js1, js2, js3⟩ := info_parts Try.infoSi
  have HR := Lib.hid hr
  have dlen : decide (65536 < l.length) = false := decide_eq_false (by omega)
  have hmi : (l.length : Int) ≤ 65536 := by omega
  refine callsIn_of_wp_marks Try.func11 rfl trivial ?_ rfl
  simp only [Try.ntmps11, List.size_toArray, List.length_cons, List.length_nil, Nat.reduceAdd, Nat.reduceSub, Array.replicate_succ, Array.replicate_zero, List.push_toArray, List.append_toArray, List.nil_append, List.cons_append]
  refine wpIn_wide.2 ?_
  clear hr
  go_wp2_with fail
  go_loopw [5, 6, 16] (fun s5 s6 s16 wr => ∃ (k : Nat) (A5 : Option Addr) (c5 : Nat) (A6 : Option Addr) (m c6 : Nat), k ≤ l.length ∧ s5 = .slice A5 k c5 ∧ s6 = .slice A6 m c6 ∧ s16 = .int .i64 k ∧ m ≤ k ∧ Hid (m = (ovsN l k).length) ∧ Hid (∀ i, i < k → 0 ≤ l.getD i 0 ∧ l.getD i 0 ≤ 2147483647) ∧ Hid (wr.ownsRow w.heap.size 3 1 (.slice A5 k c5) k (iv (smalls (l.take k)))) ∧ Hid (wr.ownsRow w.heap.size 41 3 (.slice A6 m c6) m (ev (ovsN l k))) ∧ Hid (Below w.heap.size w wr)) (fun _ _ s16 _ => l.length - (intOf s16).toNat)
  case atStart => exact ⟨0, none, 0, none, 0, 0, by omega, rfl, rfl, rfl, by omega, Lib.hid rfl, Lib.hid (fun i h => by omega), Lib.hid (World.ownsRow_nil _ _ _ _), Lib.hid (World.ownsRow_nil _ _ _ _), Lib.hid (Below.refl _ _)⟩
  case round =>
    obtain ⟨k, A5, c5, A6, m, c6, hk, rfl, rfl, rfl, hmk, HM, HOK, HO5, HO6, HB⟩ := hrel
    by_cases hlt : k < l.length
    · have hci : (k : Int) < (l.length : Int) := by omega
      obtain ⟨ad, rfl, -, hc⟩ := (HR.out.below HB.out).at_ (k := k) (by rw [iv_len]; exact hlt)
      rw [iv_at hlt] at hc
      have HBAD := Lib.hid (fun h => splitE_bad (c := l) hlt h)
      have HS := Lib.hid (smalls_next l hlt)
      have HV := Lib.hid (show ovsN l (k + 1) = if 3 ≤ l.getD k 0 then ovsN l k ++ [⟨k, cntB (l.getD k 0), 0⟩] else ovsN l k from rfl)
      have HOKN := Lib.hid (fun (h : 0 ≤ l.getD k 0 ∧ l.getD k 0 ≤ 2147483647) (i : Nat) (hi : i < k + 1) => (show 0 ≤ l.getD i 0 ∧ l.getD i 0 ≤ 2147483647 from by
        rcases Nat.lt_or_ge i k with h2 | h2
        · exact HOK.out i h2
        · obtain rfl : i = k := by omega
          exact h))
      generalize l.getD k 0 = x at *
      by_cases hx0 : x < 0
      · have HE := Lib.hid (HBAD.out (.inl hx0))
        clear HBAD HS HV HOKN hmi hm
        go_wp2
        refine ⟨_, results_tmp3 rfl _ _ _, ?_⟩
        exact GivesSplit.bad HE.out HB.out
      by_cases hxm : 2147483647 < x
      · have HE := Lib.hid (HBAD.out (.inr hxm))
        have d0 : decide (x < 0) = false := decide_eq_false hx0
        clear HBAD HS HV HOKN hmi hm hx0
        go_wp2
        refine ⟨_, results_tmp3 rfl _ _ _, ?_⟩
        exact GivesSplit.bad HE.out HB.out
      have d0 : decide (x < 0) = false := decide_eq_false hx0
      have d1 : decide (2147483647 < x) = false := decide_eq_false hxm
      have HOKK := Lib.hid (HOKN.out ⟨by omega, by omega⟩)
      clear HBAD HOKN HOK
      by_cases h3 : 3 ≤ x
      · have hsx : small x = 3 := by unfold small; rw [if_neg (by omega)]
        have d2 : ¬ x < 3 := by omega
        have HV3 := Lib.hid (show ovsN l (k + 1) = ovsN l k ++ [⟨k, cntB x, 0⟩] from by rw [HV.out, if_pos h3])
        have KC := Lib.hid (fun (V : World) => (show Calls Try.prog 32 #[.int .i64 x] V fun e w' => e = .returned (.string ⟨(cntB x).toArray⟩) ∧ Below V.heap.size V w' from vcount_any x V (by simp [Lit.wf, IntKind.min, IntKind.max, IntKind.bits, IntKind.signed]; omega)))
        rw [hsx] at HS
        have ho5 := HO5.out.alloc (.cells #[.int .i64 3] 3)
        have hsB : w.heap.size ≤ (wr.alloc (.cells #[.int .i64 3] 3)).heap.size := by have := HB.out.size; simp; omega
        clear HV hsx hx0 hxm
        have dm : (if 3 < x then (3 : Int) else x) = 3 := by split <;> omega
        go_upto_region 10 with fail
        go_wp2_with (at_builtin; refine wpList_append_to _ rfl (.tmp 27) (.tmp 30) _ rfl w.heap.size 3 ji _ 8 Try.underlying22 ji0 ji1 ji2 ji3 rfl _ k (iv (smalls (l.take k))) rfl ho5 _ _ 1 1 [.int .i64 3] rfl rfl (Reads.new wr [.int .i64 3] 3 (0, 0)) (by simp [Value.oneCell']) (by simp only [maxLen]; omega) (by omega) hsB ?_; intro A7 c7 w7 hown7 hg7 hb7 _; have HB7 := Lib.hid ((HB.out.trans ((below_alloc1 wr (.cells #[.int .i64 3] 3)).mono HB.out.size)).trans hb7); have HO7 := Lib.hid hown7; have HO6a := Lib.hid ((HO6.out.alloc (.cells #[.int .i64 3] 3)).kept hg7 (own_neS (HO6.out.alloc (.cells #[.int .i64 3] 3)) ho5 (by decide))); clear hb7 hg7 hown7 ho5 hsB HO5 HO6 HB hc)
        refine (KC.out _).mono ?_
        rintro e w8 ⟨rfl, hb8⟩
        have HB8 := HB7.out.trans (hb8.mono HB7.out.size)
        have HO5b := (own_keep HO7.out hb8).alloc (.cells #[.int .i64 k, .string ⟨(cntB x).toArray⟩, .int .i64 0] 41)
        have ho6 := (own_keep_s HO6a.out hb8).alloc (.cells #[.int .i64 k, .string ⟨(cntB x).toArray⟩, .int .i64 0] 41)
        have hsB : w.heap.size ≤ (w8.alloc (.cells #[.int .i64 k, .string ⟨(cntB x).toArray⟩, .int .i64 0] 41)).heap.size := by have := HB8.size; simp; omega
        have HB8a := Lib.hid (HB8.trans ((below_alloc1 w8 (.cells #[.int .i64 k, .string ⟨(cntB x).toArray⟩, .int .i64 0] 41)).mono HB8.size))
        have HO5c := Lib.hid HO5b
        clear HB8 HO5b hb8 HB7 HO7 HO6a KC dm
        go_wp2_with (at_builtin; refine wpList_append_to_s _ rfl (.tmp 34) (.tmp 39) _ rfl w.heap.size 3 41 je _ 32 Try.underlying25 je0 je1 je2 je3 rfl (by decide) _ m (ev (ovsN l k)) rfl ho6 _ _ 1 1 [.int .i64 k, .string ⟨(cntB x).toArray⟩, .int .i64 0] rfl rfl (Reads.new w8 [.int .i64 k, .string ⟨(cntB x).toArray⟩, .int .i64 0] 41 (0, 0)) (by simp [Value.oneCell']) (by simp only [maxLen]; omega) (by omega) hsB ?_; intro A9 c9 w9 hown9 hg9 hb9 _; have HB9 := Lib.hid (HB8a.out.trans hb9); have HO9 : Hid (w9.ownsRow w.heap.size 41 3 (.slice A9 (m + 1) c9) (m + 1) (ev (ovsN l (k + 1)))) := (by rw [HV3.out, ev_append]; exact Lib.hid hown9); have HO10 : Hid (w9.ownsRow w.heap.size 3 1 (.slice A7 (k + 1) c7) (k + 1) (iv (smalls (l.take (k + 1))))) := (by rw [HS.out, iv_append]; exact Lib.hid (HO5c.out.kept hg9 (own_neS HO5c.out ho6 (by decide)))); clear hb9 hg9 hown9 ho6 hsB HO5c HB8a)
        go_roundw
        case rel => exact ⟨k + 1, A7, c7, A9, m + 1, c9, by omega, rfl, rfl, by go_num, by omega, Lib.hid (by rw [HV3.out, List.length_append, ← HM.out]; rfl), HOKK, HO10, HO9, HB9⟩
        case measure => simp [intOf]; omega
      · have hsx : small x = x := by unfold small; rw [if_pos (by omega)]
        have HV3 := Lib.hid (show ovsN l (k + 1) = ovsN l k from by rw [HV.out, if_neg h3])
        rw [hsx] at HS
        have ho5 := HO5.out.alloc (.cells #[.int .i64 x] 3)
        have hsB : w.heap.size ≤ (wr.alloc (.cells #[.int .i64 x] 3)).heap.size := by have := HB.out.size; simp; omega
        have dm : (if 3 < x then (3 : Int) else x) = x := by split <;> omega
        have d3 : decide (3 ≤ x) = false := decide_eq_false h3
        clear HV hsx hx0 hxm h3
        go_upto_region 10 with fail
        go_wp2_with (at_builtin; refine wpList_append_to _ rfl (.tmp 27) (.tmp 30) _ rfl w.heap.size 3 ji _ 8 Try.underlying22 ji0 ji1 ji2 ji3 rfl _ k (iv (smalls (l.take k))) rfl ho5 _ _ 1 1 [.int .i64 x] rfl rfl (Reads.new wr [.int .i64 x] 3 (0, 0)) (by simp [Value.oneCell']) (by simp only [maxLen]; omega) (by omega) hsB ?_; intro A7 c7 w7 hown7 hg7 hb7 _; have HB7 := Lib.hid ((HB.out.trans ((below_alloc1 wr (.cells #[.int .i64 x] 3)).mono HB.out.size)).trans hb7); have HO7 : Hid (w7.ownsRow w.heap.size 3 1 (.slice A7 (k + 1) c7) (k + 1) (iv (smalls (l.take (k + 1))))) := (by rw [HS.out, iv_append]; exact Lib.hid hown7); have HO6a : Hid (w7.ownsRow w.heap.size 41 3 (.slice A6 m c6) m (ev (ovsN l (k + 1)))) := (by rw [HV3.out]; exact Lib.hid ((HO6.out.alloc (.cells #[.int .i64 x] 3)).kept hg7 (own_neS (HO6.out.alloc (.cells #[.int .i64 x] 3)) ho5 (by decide)))); clear hb7 hg7 hown7 ho5 hsB HO5 HO6 HB hc)
        go_roundw
        case rel => exact ⟨k + 1, A7, c7, A6, m, c6, by omega, rfl, rfl, by go_num, by omega, Lib.hid (by rw [HV3.out, ← HM.out]), HOKK, HO7, HO6a, HB7⟩
        case measure => simp [intOf]; omega
    · obtain rfl : k = l.length := by omega
      have HE := Lib.hid (splitE_ok HOK.out)
      rw [List.take_length] at HO5
      have hl1 := smalls_len l
      obtain ⟨s, hs⟩ : ∃ s, s = smalls l := ⟨_, rfl⟩
      rw [← hs] at HO5 HE hl1
      have HSL := Lib.hid hl1
      clear hlt hk HOK hs hl1 dlen
      go_upto_region 15 with fail
      go_wp2_with (refine (callsIn_wide.1 (chunk_in 3 _ _ _ _)).mono ?_; rintro e w' ⟨rfl, rfl⟩)
      refine (wpIn_wide (n := n)).1 ?_
      obtain ⟨ad, hA⟩ : ∃ ad, 0 < s.length → A5 = some ad := by
        cases A5 with
        | none => exact ⟨⟨0, 0, none⟩, fun h => by obtain ⟨g, e, _⟩ := own_cells HO5.out (by rw [← HSL.out]; exact h); cases e⟩
        | some a => exact ⟨a, fun _ => rfl⟩
      have hcap := own_capT HO5.out
      obtain ⟨w1, hw1⟩ : ∃ w1, w1 = (((wr.alloc (.cells #[.slice none 0 0] 24)).alloc (.cells #[.slice A5 l.length c5] 22)).alloc (.cells #[.int .i64 960] 3)) := ⟨_, rfl⟩
      have hsz : w1.heap.size = wr.heap.size + 3 := by rw [hw1]; simp
      have hB1 : Below wr.heap.size wr w1 := by
        rw [hw1]
        exact (((Below.refl _ wr).alloc (Nat.le_refl _) _).alloc (by simp) _).alloc (by simp; omega) _
      have bS : Boxed w1 wr.heap.size 24 (.slice none 0 0) := by rw [hw1]; exact ((Boxed.new wr _ _).alloc _).alloc _
      have bX : w1.heap[wr.heap.size + 1]? = some (.cells #[.slice A5 s.length c5] 22) := by
        rw [hw1, HSL.out]
        have := heap_alloc_new (wr.alloc (.cells #[.slice none 0 0] 24)) (.cells #[.slice A5 l.length c5] 22)
        rw [World.size_alloc] at this
        exact heap_alloc' this _
      have bN : w1.heap[wr.heap.size + 2]? = some (.cells #[.int .i64 960] 3) := by
        rw [hw1]
        have := heap_alloc_new ((wr.alloc (.cells #[.slice none 0 0] 24)).alloc (.cells #[.slice A5 l.length c5] 22)) (.cells #[.int .i64 960] 3)
        rw [World.size_alloc, World.size_alloc] at this
        exact this
      rw [← hw1]
      clear hw1
      have h65 : s.length ≤ 65536 := by rw [HSL.out]; exact hm
      refine wpIn_rangeFunc_ownG rfl h1 (gf := 60) (lb := #[.pointer (some ⟨wr.heap.size + 1, 0, none⟩), .pointer (some ⟨wr.heap.size + 2, 0, none⟩)]) rfl trivial (enters_of Try.func60 (by kernel_rfl) rfl)
        (chunk_stops (n - 1) (by omega) (wr.heap.size + 1) (wr.heap.size + 2) wr.heap.size ad A5 c5 s hA h65 (by rw [HSL.out]; exact hcap) w1 (by omega) (by omega) bX bN) KpC.trans (KpC.turn (by omega) (by omega) (by omega)) (Below.refl _ _) (fun _ => rfl)
        (fun pre W => BoxLL wr.heap.size (wr.heap.size + 3) (pre.map fun x => chunkN s x.1) W ∧ Below wr.heap.size w1 W)
        (fun _ _ _ => False)
        (OwnFrom.and ((BoxLL.own wr.heap.size (wr.heap.size + 3) (fun pre : List (CSpot s) => pre.map fun x => chunkN s x.1)).from _) (ownFrom_below (by omega) (by omega)))
        (fun _ _ _ _ _ hs _ _ => hs)
        ⟨⟨_, bS, OwnLL.nil _ _⟩, Below.refl _ _⟩
        (fun x => { tmps := #[.slice A l.length c, undef, u2, u3, u4, .slice A5 l.length c5, .slice A6 m c6, u7, u8, .pointer (some ⟨wr.heap.size, 0, none⟩), chunkV ad s x.1, .slice A l.length c, .int .i64 (l.length : Int), .bool (decide ((65536 : Int) < (l.length : Int))), .slice A l.length c, .int .i64 (l.length : Int), .int .i64 (l.length : Int), .bool false, u18, u19, u20, u21, u22, u23, u24, u25, u26, u27, u28, u29, u30, u31, u32, u33, u34, u35, u36, u37, u38, u39, u40, u41, .slice A5 l.length c5, .func (.func 60) #[] #[.pointer (some ⟨wr.heap.size + 1, 0, none⟩), .pointer (some ⟨wr.heap.size + 2, 0, none⟩)], chunkV ad s x.1, undef, undef, undef, undef, undef, undef, undef], defers := [] }) ?assign ?body ?done ?stop
      case assign =>
        intro lp x W K hK
        gi_wp2
        exact hK
      case body =>
        rintro lp pre ⟨x, hx⟩ W ⟨⟨v, hv, vs, o1, o2, o3⟩, hB⟩ hlt
        have hWs := hB.size
        have hxs := parts_at hx
        have hAd := hA (by omega)
        have hsl := HSL.out
        have hrs : Reads W wr.heap.size (some (ad.add (960 * x))) (iv (chunkN s x)) := by
          have h1 := (Reads.of_own HO5.out).below (hB1.trans hB)
          rw [hAd] at h1
          have h2 := h1.drop (k := 960 * x) (cap := c5) (by rw [iv_len]; omega)
          rw [if_neg (by omega), iv_drop] at h2
          have h3 := h2.take 960
          rw [iv_take] at h3
          exact h3
        have hcl : (chunkN s x).length ≤ 960 := by rw [chunkN_len]; omega
        have HCL := Lib.hid (cloneI_any (some (ad.add (960 * x))) (chunkN s x).length (chunkN s x) W.drew wr.heap.size (by show wr.heap.size ≤ W.heap.size; omega) (by simp only [reachBytes]; omega) hrs)
        rw [List.length_map] at o1 o2
        have HP1 := Lib.hid (fun (w5 : World) (hb5 : Below W.drew.heap.size W.drew w5) (O : Obj) => (own_keep (w := W.drew) o1 hb5).alloc O)
        have HTL := Lib.hid (fun (w5 w6 : World) (O : Obj) (u v' : Value) (hb5 : Below W.drew.heap.size W.drew w5) (hu : w5.ownsRow W.drew.heap.size 3 1 u (chunkN s x).length (iv (chunkN s x))) (ho : w6.ownsRow (wr.heap.size + 3) 22 1 v' (pre.length + 1) (vs ++ [u])) (hg : (w5.alloc O).grownBy w6 v.ownBlock) => (split_tail (W := W.drew) (f := wr.heap.size) (ls := pre.map fun x => chunkN s x.1) (by show wr.heap.size + 3 ≤ W.heap.size; omega) hv (by rw [List.length_map]; exact o1) (by rw [List.length_map]; exact o2) o3 hb5 hu O (by rw [List.length_map]; exact ho) hg))
        have hc := hv.cell
        have hpl : pre.length ≤ 1000 := by unfold parts at hlt; omega
        have hv : Boxed W.drew wr.heap.size 24 v := hv
        clear o1 o2 o3 hrs hAd hcl hsl
        gi_wp2
        refine wpIn_region_any (by kernel_rfl) ?_
        change wpAnyIn _ _ _ _ _ _ _ _ _ (World.drew _)
        refine wpAnyIn_ready (rs := [0, 1]) (by kernel_rfl) (by simp) ?_
        refine AllReadyIn.cons rfl (fun K hK => ?_) (AllReadyIn.cons rfl (fun K hK => ?_) AllReadyIn.nil)
        · go_simp
          refine hK _ _ ?_
          clear hK K
          refine wpAnyIn_ready (rs := [1]) (by kernel_rfl) (by simp) ?_
          refine AllReadyIn.cons rfl (fun K hK => ?_) AllReadyIn.nil
          go_simp
          refine hK _ _ ?_
          clear hK K
          refine wpAnyIn_ready (rs := [2]) (by kernel_rfl) (by simp) ?_
          refine AllReadyIn.cons rfl (fun K hK => ?_) AllReadyIn.nil
          go_simp
          refine ⟨trivial, fun _ => by omega, ?_⟩
          refine (CallsIn.inRound lp (callsIn_wide.2 HCL.out)).mono ?_
          rintro e w5 ⟨A7, c7, rfl, hown5, hb5⟩
          rw [iv_len] at hown5
          rw [iv_len]
          have hv5 : Boxed w5 wr.heap.size 24 v := heap_keep hv hb5
          have hc5 := hv5.cell
          have hc5a := (hv5.alloc (.cells #[.slice A7 (chunkN s x).length c7] 22)).cell
          have HO5 := Lib.hid hown5
          have HB5 := Lib.hid hb5
          clear hown5 hb5 hv5
          refine hK _ _ ?_
          clear hK K
          refine wpAnyIn_ready (rs := [3]) (by kernel_rfl) (by simp) ?_
          refine AllReadyIn.cons rfl (fun K hK => ?_) AllReadyIn.nil
          go_simp
          refine hK _ _ ?_
          clear hK K
          refine wpAnyIn_ready (rs := [4]) (by kernel_rfl) (by simp) ?_
          refine AllReadyIn.cons rfl (fun K hK => ?_) AllReadyIn.nil
          rw [if_pos (by kernel_rfl)]
          refine operIn_append_own _ _ _ 24 rfl (wr.heap.size + 3) 22 js (.slice none 0 0) 1 24 Try.underlying24 js0 js1 js2 js3 rfl (by decide) v pre.length vs rfl (HP1.out w5 HB5.out _) ⟨w5.heap.size, 0, none⟩ 1 1 [.slice A7 (chunkN s x).length c7] rfl rfl (cell_one_new _ _ _) (by simp [Value.oneCell']) (by simp only [maxLen]; omega) (by omega) (by have h5 : W.heap.size ≤ w5.heap.size := HB5.out.size; simp; omega) ?_
          intro v' w6 hown6 hg6
          obtain ⟨g', cap', rfl⟩ := ownsRow_succ hown6
          obtain ⟨t1, HT⟩ := HTL.out w5 w6 _ _ _ HB5.out HO5.out hown6 hg6
          have ht1 := t1.cell
          have ht2 := t1.frozen
          have HTT := Lib.hid HT
          clear HT t1 hown6 hg6
          refine hK _ _ ?_
          clear hK K
          refine wpAnyIn_ready (rs := [5]) (by kernel_rfl) (by simp) ?_
          refine AllReadyIn.cons rfl (fun K hK => ?_) AllReadyIn.nil
          go_simp
          refine hK _ _ ?_
          clear hK K
          refine wpAnyIn_done (by kernel_rfl) ?_ _
          exact ⟨((KeepsOthers.drew W).trans HTT.out.1).from _, KpC.trans ⟨(Below.refl _ W).drew, rfl, rfl⟩ HTT.out.2.1, by rw [List.map_append]; exact HTT.out.2.2.1, hB.drew.trans HTT.out.2.2.2⟩
        · go_simp
          refine hK _ _ ?_
          clear hK K
          refine wpAnyIn_ready (rs := [0, 2]) (by kernel_rfl) (by simp) ?_
          refine AllReadyIn.cons rfl (fun K hK => ?_) (AllReadyIn.cons rfl (fun K hK => ?_) AllReadyIn.nil)
          · go_simp
            refine hK _ _ ?_
            clear hK K
            refine wpAnyIn_ready (rs := [2]) (by kernel_rfl) (by simp) ?_
            refine AllReadyIn.cons rfl (fun K hK => ?_) AllReadyIn.nil
            go_simp
            refine ⟨trivial, fun _ => by omega, ?_⟩
            refine (CallsIn.inRound lp (callsIn_wide.2 HCL.out)).mono ?_
            rintro e w5 ⟨A7, c7, rfl, hown5, hb5⟩
            rw [iv_len] at hown5
            rw [iv_len]
            have hv5 : Boxed w5 wr.heap.size 24 v := heap_keep hv hb5
            have hc5 := hv5.cell
            have hc5a := (hv5.alloc (.cells #[.slice A7 (chunkN s x).length c7] 22)).cell
            have HO5 := Lib.hid hown5
            have HB5 := Lib.hid hb5
            clear hown5 hb5 hv5
            refine hK _ _ ?_
            clear hK K
            refine wpAnyIn_ready (rs := [3]) (by kernel_rfl) (by simp) ?_
            refine AllReadyIn.cons rfl (fun K hK => ?_) AllReadyIn.nil
            go_simp
            refine hK _ _ ?_
            clear hK K
            refine wpAnyIn_ready (rs := [4]) (by kernel_rfl) (by simp) ?_
            refine AllReadyIn.cons rfl (fun K hK => ?_) AllReadyIn.nil
            rw [if_pos (by kernel_rfl)]
            refine operIn_append_own _ _ _ 24 rfl (wr.heap.size + 3) 22 js (.slice none 0 0) 1 24 Try.underlying24 js0 js1 js2 js3 rfl (by decide) v pre.length vs rfl (HP1.out w5 HB5.out _) ⟨w5.heap.size, 0, none⟩ 1 1 [.slice A7 (chunkN s x).length c7] rfl rfl (cell_one_new _ _ _) (by simp [Value.oneCell']) (by simp only [maxLen]; omega) (by omega) (by have h5 : W.heap.size ≤ w5.heap.size := HB5.out.size; simp; omega) ?_
            intro v' w6 hown6 hg6
            obtain ⟨g', cap', rfl⟩ := ownsRow_succ hown6
            obtain ⟨t1, HT⟩ := HTL.out w5 w6 _ _ _ HB5.out HO5.out hown6 hg6
            have ht1 := t1.cell
            have ht2 := t1.frozen
            have HTT := Lib.hid HT
            clear HT t1 hown6 hg6
            refine hK _ _ ?_
            clear hK K
            refine wpAnyIn_ready (rs := [5]) (by kernel_rfl) (by simp) ?_
            refine AllReadyIn.cons rfl (fun K hK => ?_) AllReadyIn.nil
            go_simp
            refine hK _ _ ?_
            clear hK K
            refine wpAnyIn_done (by kernel_rfl) ?_ _
            exact ⟨((KeepsOthers.drew W).trans HTT.out.1).from _, KpC.trans ⟨(Below.refl _ W).drew, rfl, rfl⟩ HTT.out.2.1, by rw [List.map_append]; exact HTT.out.2.2.1, hB.drew.trans HTT.out.2.2.2⟩
          · go_simp
            refine ⟨trivial, fun _ => by omega, ?_⟩
            refine (CallsIn.inRound lp (callsIn_wide.2 HCL.out)).mono ?_
            rintro e w5 ⟨A7, c7, rfl, hown5, hb5⟩
            rw [iv_len] at hown5
            rw [iv_len]
            have hv5 : Boxed w5 wr.heap.size 24 v := heap_keep hv hb5
            have hc5 := hv5.cell
            have hc5a := (hv5.alloc (.cells #[.slice A7 (chunkN s x).length c7] 22)).cell
            have HO5 := Lib.hid hown5
            have HB5 := Lib.hid hb5
            clear hown5 hb5 hv5
            refine hK _ _ ?_
            clear hK K
            refine wpAnyIn_ready (rs := [0, 3]) (by kernel_rfl) (by simp) ?_
            refine AllReadyIn.cons rfl (fun K hK => ?_) (AllReadyIn.cons rfl (fun K hK => ?_) AllReadyIn.nil)
            · go_simp
              refine hK _ _ ?_
              clear hK K
              refine wpAnyIn_ready (rs := [3]) (by kernel_rfl) (by simp) ?_
              refine AllReadyIn.cons rfl (fun K hK => ?_) AllReadyIn.nil
              go_simp
              refine hK _ _ ?_
              clear hK K
              refine wpAnyIn_ready (rs := [4]) (by kernel_rfl) (by simp) ?_
              refine AllReadyIn.cons rfl (fun K hK => ?_) AllReadyIn.nil
              rw [if_pos (by kernel_rfl)]
              refine operIn_append_own _ _ _ 24 rfl (wr.heap.size + 3) 22 js (.slice none 0 0) 1 24 Try.underlying24 js0 js1 js2 js3 rfl (by decide) v pre.length vs rfl (HP1.out w5 HB5.out _) ⟨w5.heap.size, 0, none⟩ 1 1 [.slice A7 (chunkN s x).length c7] rfl rfl (cell_one_new _ _ _) (by simp [Value.oneCell']) (by simp only [maxLen]; omega) (by omega) (by have h5 : W.heap.size ≤ w5.heap.size := HB5.out.size; simp; omega) ?_
              intro v' w6 hown6 hg6
              obtain ⟨g', cap', rfl⟩ := ownsRow_succ hown6
              obtain ⟨t1, HT⟩ := HTL.out w5 w6 _ _ _ HB5.out HO5.out hown6 hg6
              have ht1 := t1.cell
              have ht2 := t1.frozen
              have HTT := Lib.hid HT
              clear HT t1 hown6 hg6
              refine hK _ _ ?_
              clear hK K
              refine wpAnyIn_ready (rs := [5]) (by kernel_rfl) (by simp) ?_
              refine AllReadyIn.cons rfl (fun K hK => ?_) AllReadyIn.nil
              go_simp
              refine hK _ _ ?_
              clear hK K
              refine wpAnyIn_done (by kernel_rfl) ?_ _
              exact ⟨((KeepsOthers.drew W).trans HTT.out.1).from _, KpC.trans ⟨(Below.refl _ W).drew, rfl, rfl⟩ HTT.out.2.1, by rw [List.map_append]; exact HTT.out.2.2.1, hB.drew.trans HTT.out.2.2.2⟩
            · go_simp
              refine hK _ _ ?_
              clear hK K
              refine wpAnyIn_ready (rs := [0]) (by kernel_rfl) (by simp) ?_
              refine AllReadyIn.cons rfl (fun K hK => ?_) AllReadyIn.nil
              go_simp
              refine hK _ _ ?_
              clear hK K
              refine wpAnyIn_ready (rs := [4]) (by kernel_rfl) (by simp) ?_
              refine AllReadyIn.cons rfl (fun K hK => ?_) AllReadyIn.nil
              rw [if_pos (by kernel_rfl)]
              refine operIn_append_own _ _ _ 24 rfl (wr.heap.size + 3) 22 js (.slice none 0 0) 1 24 Try.underlying24 js0 js1 js2 js3 rfl (by decide) v pre.length vs rfl (HP1.out w5 HB5.out _) ⟨w5.heap.size, 0, none⟩ 1 1 [.slice A7 (chunkN s x).length c7] rfl rfl (cell_one_new _ _ _) (by simp [Value.oneCell']) (by simp only [maxLen]; omega) (by omega) (by have h5 : W.heap.size ≤ w5.heap.size := HB5.out.size; simp; omega) ?_
              intro v' w6 hown6 hg6
              obtain ⟨g', cap', rfl⟩ := ownsRow_succ hown6
              obtain ⟨t1, HT⟩ := HTL.out w5 w6 _ _ _ HB5.out HO5.out hown6 hg6
              have ht1 := t1.cell
              have ht2 := t1.frozen
              have HTT := Lib.hid HT
              clear HT t1 hown6 hg6
              refine hK _ _ ?_
              clear hK K
              refine wpAnyIn_ready (rs := [5]) (by kernel_rfl) (by simp) ?_
              refine AllReadyIn.cons rfl (fun K hK => ?_) AllReadyIn.nil
              go_simp
              refine hK _ _ ?_
              clear hK K
              refine wpAnyIn_done (by kernel_rfl) ?_ _
              exact ⟨((KeepsOthers.drew W).trans HTT.out.1).from _, KpC.trans ⟨(Below.refl _ W).drew, rfl, rfl⟩ HTT.out.2.1, by rw [List.map_append]; exact HTT.out.2.2.1, hB.drew.trans HTT.out.2.2.2⟩
      case done =>
        rintro D ys W hD hys ⟨⟨v, hv, hL⟩, hB⟩ hK
        have hc := hv.cell
        have e1 : (ys.map fun x => chunkN s x.1) = chunks21 s := by
          unfold chunks21 chunksTo
          rw [← hys, List.map_map]
          rfl
        rw [e1] at hL
        have HL := Lib.hid hL
        clear e1 hys hL
        obtain ⟨A8, c8, rfl, -⟩ := HL.out.lists
        have HLP := Lib.hid (HL.out.putObj (.deferred none) hK rfl)
        have HOP := Lib.hid (ownsRow_putObj (own_keep_s HO6.out (hB1.trans hB)) (.deferred none) hK rfl)
        have HBP := Lib.hid (((HB.out.trans ((hB1.trans hB).mono HB.out.size))).trans (belowK_b (w := w) (Nat.le_refl _) W D _ (.deferred none) (by have := HB.out.size; omega) hK rfl rfl))
        go_wp2
        refine ⟨by simp, .inl ⟨_, _, rfl, run_takeDeferred hK, ?_⟩⟩
        refine ⟨_, results_tmp3 rfl _ _ _, A8, c8, A6, c6, ?_, ?_, ?_, HBP.out⟩
        · rw [HE.out.1, HE.out.2.1, HE.out.2.2, ← HM.out]
          rfl
        · rw [HE.out.2.1]
          obtain ⟨A9, c9, e9, hls⟩ := HLP.out.lists
          injection e9 with e9
          subst e9
          exact hls
        · rw [HE.out.2.2]
          exact Ents.of_own HM.out HOP.out
      case stop =>
        rintro D c pre W _ _ h _
        exact h.elim
end
theorem split_any (A : Option Addr) (c : Nat) (l : List Int) (hm : l.length ≤ 65536) (w : World) (hr : Reads w w.heap.size A (iv l)) :
    Calls Try.prog 11 #[.slice A l.length c] w (GivesSplit l w) := callsIn_wide.1 (split_in 3 (by omega) A c l hm w hr)
end Go.Proofs.Ytcnalndhlonblaa
