/-
  Chapter 12: the iterator of refs (under way).
-/
import Derived.RangeFuncBox
import Derived.RangeFuncLeaves
import Derived.Shelf.Abstract
import Derived.WalkKit
import Derived.OwnWalkIn
import Derived.TacticsInMore
import Derived.LoopNIn
import Derived.LoopIn
import Derived.Maps.AppendAt
import Derived.Test.YtnebmkkaobedaaaRefs
namespace Go.Proofs.Ytnebmkkaobedaaa
open Go.RowKit Go.Shelf
attribute [local go_sem] Oper.semAt_some

/-- the places, and the numbers there, that are not less than a bound, of the first k -/
def pickL (least : Int) (zs : List Int) : Nat → List (Nat × Int)
  | 0 => []
  | k + 1 => if least ≤ zs[k]?.getD 0 then pickL least zs k ++ [(k, zs[k]?.getD 0)] else pickL least zs k
theorem pickL_len (least : Int) (zs : List Int) : ∀ k, (pickL least zs k).length ≤ k
  | 0 => Nat.le_refl _
  | k + 1 => by
    have := pickL_len least zs k
    unfold pickL
    split
    · simp; omega
    · omega
theorem pickL_yes {least : Int} {zs : List Int} {k : Nat} (h : least ≤ zs[k]?.getD 0) : pickL least zs (k + 1) = pickL least zs k ++ [(k, zs[k]?.getD 0)] := by
  conv => lhs; unfold pickL
  rw [if_pos h]
theorem pickL_no {least : Int} {zs : List Int} {k : Nat} (h : ¬ least ≤ zs[k]?.getD 0) : pickL least zs (k + 1) = pickL least zs k := by
  conv => lhs; unfold pickL
  rw [if_neg h]
/-- what a round keeps: all below n₀, and block b -/
def KpL (n₀ b : Nat) (W W' : World) : Prop := Below n₀ W W' ∧ W'.heap[b]? = W.heap[b]?
theorem KpL.refl (n₀ b : Nat) (W : World) : KpL n₀ b W W := ⟨Below.refl _ _, rfl⟩
theorem KpL.trans {n₀ b : Nat} {A B C : World} (h : KpL n₀ b A B) (k : KpL n₀ b B C) : KpL n₀ b A C := ⟨h.1.trans k.1, k.2.trans h.2⟩
theorem KpL.turn {n₀ b : Nat} {w : World} (hn : n₀ ≤ w.heap.size) (hb : b < w.heap.size) (W : World) (l : Nat) (o o' : Obj) (hl : w.heap.size ≤ l) (h : W.heap[l]? = some o) (h1 : o.isCells = false) (h2 : o.isWalk = false) : KpL n₀ b W (W.putObj l o') :=
  ⟨belowK_b hn W l o o' hl h h1 h2, World.putObj_heap_other (by omega)⟩
set_option maxRecDepth 100000 in
set_option maxHeartbeats 2000000 in
theorem those1_in (n : Nat) (hn : 1 ≤ n) (l Bx Bl n₀ : Nat) (p0 : Option Addr) (least : Int) (A : Option Addr) (c : Nat) (zs : List Int) (hm : zs.length ≤ 65536) (J Jx : List (Nat × Int) → World → Prop)
    (hY : ∀ pre x W, J pre W → pre.length < zs.length → YieldAt Fence.wide (n - 1) Try.prog l #[.int .i64 (x.1 : Int), .int .i64 x.2] W fun e W' =>
      (e = .returned (.bool true) ∧ J (pre ++ [x]) W' ∧ KpL n₀ Bl W W') ∨ (e = .returned (.bool false) ∧ Jx (pre ++ [x]) W'))
    (W : World) (hBx : W.cell? ⟨Bx, 0, none⟩ = some (.pointer p0)) (hBl : W.heap[Bl]? = some (.cells #[.int .i64 least] 3))
    (ho : Calls Try.prog 67 #[.pointer p0] W fun e w' => e = .returned (.slice A zs.length c) ∧ W = w') (hr : Reads W n₀ A (iv zs)) (h0 : J [] W) :
    CallsIn Fence.wide n Try.prog 74 #[.func (.yield l) #[] #[], .pointer (some ⟨Bx, 0, none⟩), .pointer (some ⟨Bl, 0, none⟩)] W fun e W' => (∃ v, e = .returned v) ∧
      ((∃ ys, ys = pickL least zs zs.length ∧ J ys W') ∨ (∃ pre, (∃ k, k ≤ zs.length ∧ pre = pickL least zs k) ∧ Jx pre W')) := by
  refine callsIn_of_wp Try.func74 rfl trivial ?_ rfl
  simp only [Try.ntmps74, List.size_toArray, List.length_cons, List.length_nil, Nat.reduceAdd, Nat.reduceSub, Array.replicate_succ, Array.replicate_zero, List.push_toArray, List.append_toArray, List.nil_append, List.cons_append]
  have hBl0 := hBl
  clear hBl
  gi_wp2_with (refine ⟨trivial, ?_⟩; gi_at_call 67; refine (callsIn_wide.2 ho).mono ?_; rintro e w' ⟨rfl, rfl⟩)
  gi_loopw [9] (fun i wr => ∃ k : Nat, k ≤ zs.length ∧ i = .int .i64 k ∧ J (pickL least zs k) wr ∧ KpL n₀ Bl W wr)
    (fun i _ => zs.length - (intOf i).toNat)
  case atStart => exact ⟨0, Nat.zero_le _, rfl, h0, KpL.refl _ _ _⟩
  case round =>
    obtain ⟨k, hk, rfl, hJs, hnx⟩ := hrel
    have hBl' := heap_cell (hnx.2.trans hBl0) 0 rfl
    by_cases hlt : k < zs.length
    · obtain ⟨ad, hA, hadb, hcell⟩ := (hr.below hnx.1).at_ (k := k) (by rw [iv_len]; exact hlt)
      subst hA
      replace hcell : wr.cell? (ad.add k) = some (.int .i64 (zs[k]?.getD 0)) := by
        rw [hcell, List.getElem?_eq_getElem hlt]
        simp [iv]
      have i0 : (0 : Int) ≤ (k : Int) := by omega
      have i1 : (k : Int) < (zs.length : Int) := by omega
      by_cases hle : least ≤ zs[k]?.getD 0
      · obtain ⟨fn, tmps, assign, body, hy, hR⟩ := hY _ (k, zs[k]?.getD 0) wr hJs (by have := pickL_len least zs k; omega)
        rw [← pickL_yes hle] at hR
        have HP := Lib.hid (pickL_yes hle)
        dsimp only at hy
        generalize zs[k]?.getD 0 = z at *
        gi_wp2
        refine hR.mono ?_
        rintro e W3 (⟨rfl, hJ3, hk3⟩ | ⟨rfl, hJx3⟩)
        · gi_wp2
          go_roundw
          case rel => exact ⟨k + 1, by omega, by simp, hJ3, hnx.trans hk3⟩
          case measure => simp [intOf]; omega
        · gi_wp2
          refine bodyPost_ret (results_none rfl _ _ _) rfl ?_
          exact ⟨⟨_, rfl⟩, .inr ⟨_, ⟨k + 1, by omega, rfl⟩, hJx3⟩⟩
      · have HP := Lib.hid (pickL_no hle)
        generalize zs[k]?.getD 0 = z at *
        gi_wp2
        refine ⟨fun _ h => (by cases h), ?_⟩
        gi_wp2
        go_roundw
        case rel => exact ⟨k + 1, by omega, by simp, by rw [HP.out]; exact hJs, hnx⟩
        case measure => simp [intOf]; omega
    · obtain rfl : k = zs.length := by omega
      gi_wp2
      go_end0
      exact ⟨⟨_, rfl⟩, .inl ⟨_, rfl, hJs⟩⟩
set_option maxHeartbeats 1000000 in
theorem those_in (n : Nat) (p0 : Option Addr) (least : Int) (w : World) :
    CallsIn Fence.wide n Try.prog 68 #[.pointer p0, .int .i64 least] w fun e w' => e = .returned (.func (.func 74) #[] #[.pointer (some ⟨w.heap.size, 0, none⟩), .pointer (some ⟨w.heap.size + 1, 0, none⟩)]) ∧ w' = (w.alloc (.cells #[.pointer p0] 47)).alloc (.cells #[.int .i64 least] 3) := by
  refine callsIn_of_wp Try.func68 rfl trivial ?_ rfl
  simp only [Try.ntmps68, List.size_toArray, List.length_cons, List.length_nil, Nat.reduceAdd, Nat.reduceSub, Array.replicate_succ, Array.replicate_zero, List.push_toArray, List.append_toArray, List.nil_append, List.cons_append]
  gi_wp2
  go_ret
  exact ⟨rfl, rfl⟩
/-- a receiver whose counts are zs, in whatever world keeps what lay below n₀ -/
def Nums (p0 : Option Addr) (A : Option Addr) (c : Nat) (zs : List Int) (n₀ : Nat) (w : World) : Prop :=
  zs.length ≤ 65536 ∧ Reads w n₀ A (iv zs) ∧ ∀ W, Below n₀ w W → Calls Try.prog 67 #[.pointer p0] W fun e w' => e = .returned (.slice A zs.length c) ∧ W = w'
theorem Nums.below {p0 A : Option Addr} {c : Nat} {zs : List Int} {n₀ : Nat} {w w' : World} (h : Nums p0 A c zs n₀ w) (hb : Below n₀ w w') : Nums p0 A c zs n₀ w' :=
  ⟨h.1, h.2.1.below hb, fun W hW => h.2.2 W (hb.trans hW)⟩
theorem those_stops (n : Nat) (hn : 1 ≤ n) (Bx Bl n₀ : Nat) (p0 A : Option Addr) (c : Nat) (least : Int) (zs : List Int) (w : World) (hx : Bx < w.heap.size) (hl : Bl < w.heap.size) (hn₀ : n₀ ≤ w.heap.size)
    (hcx : w.cell? ⟨Bx, 0, none⟩ = some (.pointer p0)) (hcl : w.heap[Bl]? = some (.cells #[.int .i64 least] 3)) (hN : Nums p0 A c zs n₀ w) :
    SeqStopsK Fence.wide n Try.prog 74 #[.pointer (some ⟨Bx, 0, none⟩), .pointer (some ⟨Bl, 0, none⟩)] (fun x : Nat × Int => #[Value.int .i64 (x.1 : Int), Value.int .i64 x.2]) (KpL n₀ Bl) (fun ys => ys = pickL least zs zs.length)
      (fun pre => ∃ k, k ≤ zs.length ∧ pre = pickL least zs k) zs.length w := fun l J Jx W hW _ _ hY h0 => by
  have hN' := hN.below (hW.mono hn₀)
  exact those1_in n hn l Bx Bl n₀ p0 least A c zs hN.1 J Jx hY W ((hW.cell (p := ⟨Bx, 0, none⟩) hx).trans hcx) ((hW.block Bl hl).trans hcl) (hN'.2.2 W (Below.refl _ _)) hN'.2.1 h0
def sumW (l : List (Nat × Int)) : Int := l.foldl (fun s v => wrap64 (s + v.2)) 0
theorem sumW_snoc (pre : List (Nat × Int)) (x : Nat × Int) : sumW (pre ++ [x]) = wrap64 (sumW pre + x.2) := by simp [sumW]
set_option maxRecDepth 100000 in
set_option maxHeartbeats 2000000 in
theorem total_in (n : Nat) (hn : 3 ≤ n) (p0 A : Option Addr) (c : Nat) (zs : List Int) (w : World) (hN : Nums p0 A c zs w.heap.size w) :
    CallsIn Fence.wide n Try.prog 39 #[.pointer p0] w fun e W' => e = .returned (.int .i64 (sumW (pickL 0 zs zs.length))) ∧ Below w.heap.size w W' := by
  have h1 : 1 ≤ n := by omega
  refine callsIn_of_wp_marks Try.func39 rfl trivial ?_ rfl
  simp only [Try.ntmps39, List.size_toArray, List.length_cons, List.length_nil, Nat.reduceAdd, Nat.reduceSub, Array.replicate_succ, Array.replicate_zero, List.push_toArray, List.append_toArray, List.nil_append, List.cons_append]
  gi_wp2_with (refine ⟨trivial, ?_⟩; gi_at_call 68; refine (those_in (n - 1) _ _ _).mono ?_; rintro e w' ⟨rfl, rfl⟩)
  have bS := Boxed.new w 3 (.int .i64 0)
  have bX := Boxed.new (w.alloc (.cells #[.int .i64 0] 3)) 47 (.pointer p0)
  have bL := Boxed.new ((w.alloc (.cells #[.int .i64 0] 3)).alloc (.cells #[.pointer p0] 47)) 3 (.int .i64 0)
  rw [World.size_alloc] at bX bL
  rw [World.size_alloc] at bL
  have hB0 : Below w.heap.size w (((w.alloc (.cells #[.int .i64 0] 3)).alloc (.cells #[.pointer p0] 47)).alloc (.cells #[.int .i64 0] 3)) := (((Below.refl _ w).alloc (Nat.le_refl _) _).alloc (by simp) _).alloc (by simp; omega) _
  refine wpIn_rangeFunc_ownG rfl h1 (gf := 74) (lb := #[.pointer (some ⟨w.heap.size + 1, 0, none⟩), .pointer (some ⟨w.heap.size + 1 + 1, 0, none⟩)]) rfl trivial (enters_of Try.func74 (by kernel_rfl) rfl)
    (those_stops (n - 1) (by omega) (w.heap.size + 1) (w.heap.size + 1 + 1) w.heap.size p0 A c 0 zs _ (by simp) (by simp) (by simp; omega) (bX.alloc _).cell bL (hN.below hB0)) KpL.trans (KpL.turn (by simp; omega) (by simp)) (Below.refl _ _) (fun _ => rfl)
    (fun pre W => (W.cell? ⟨w.heap.size, 0, none⟩ = some (.int .i64 (sumW pre)) ∧ W.frozen? ⟨w.heap.size, 0, none⟩ = false) ∧ Below w.heap.size w W)
    (fun _ _ _ => False)
    (OwnFrom.and (Own.from (fun s A B row hs hg hr => ⟨cell_kept hs.1 hg hr, (frozen_kept hs.1 hg hr).trans hs.2⟩) _) (ownFrom_below (Nat.le_refl _) (by simp; omega)))
    (fun _ _ _ _ _ hs _ _ => hs)
    ⟨⟨((bS.alloc _).alloc _).cell, ((bS.alloc _).alloc _).frozen⟩, hB0⟩
    (fun x => { tmps := #[.pointer p0, undef, .int .i64 0, .pointer (some ⟨w.heap.size, 0, none⟩), undef, .int .i64 x.2, .pointer p0, .func (.func 74) #[] #[.pointer (some ⟨w.heap.size + 1, 0, none⟩), .pointer (some ⟨w.heap.size + 1 + 1, 0, none⟩)], .int .i64 (x.1 : Int), .int .i64 x.2, undef, undef, undef, undef], defers := [] }) ?assign ?body ?done ?stop
  case assign =>
    intro l x W K hK
    gi_wp2
    exact hK
  case body =>
    rintro l pre x W ⟨⟨hc, hf⟩, hB⟩ _
    gi_wp2
    exact ⟨(KeepsOthers.setCell _ _ _).from _, ⟨(Below.refl w.heap.size W).setCell (p := ⟨w.heap.size, 0, none⟩) (Nat.le_refl _) _, heap_setCell_other W ⟨w.heap.size, 0, none⟩ _ _ (by simp; omega)⟩, ⟨by rw [sumW_snoc]; exact World.cell?_setCell_same' _ _ _ (by rw [hc]; rfl), by rw [World.frozen?_setCell]; exact hf⟩, hB.setCell (p := ⟨w.heap.size, 0, none⟩) (Nat.le_refl _) _⟩
  case done =>
    rintro D ys W hD rfl ⟨⟨hc, _⟩, hB⟩ hK
    gi_wp2
    refine ⟨by simp, .inl ⟨_, _, rfl, run_takeDeferred hK, ?_⟩⟩
    exact ⟨_, results_tmp rfl _ _ _, rfl, hB.trans (belowK_b (w := w) (Nat.le_refl _) W D _ _ (by simp at hD; omega) hK rfl rfl)⟩
  case stop =>
    rintro D c pre W _ _ h _
    exact h.elim
def kvL (l : List (Nat × Int)) : List Int := l.map fun x => (x.1 : Int)
theorem kvL_len (l : List (Nat × Int)) : (kvL l).length = l.length := by simp [kvL]
theorem kvL_snoc (l : List (Nat × Int)) (x : Nat × Int) : iv (kvL (l ++ [x])) = iv (kvL l) ++ [Value.int .i64 (x.1 : Int)] := by simp [kvL, iv]
theorem own_ge {w : World} {base g : Nat} {e : TypeId} {v : Value} {n : Nat} {xs : List Value} (h : w.ownsRow base e 1 v n xs) (hg : v.ownBlock = some g) : base ≤ g := by
  rcases h.2 with ⟨rfl, _⟩ | ⟨g', cap, cur, rfl, hb, _⟩
  · simp [Value.ownBlock] at hg
  · obtain rfl : g' = g := by simpa [Value.ownBlock] using hg
    exact hb
set_option maxRecDepth 100000 in
set_option maxHeartbeats 2000000 in
theorem from_in (n : Nat) (hn : 3 ≤ n) (p0 A : Option Addr) (c : Nat) (least : Int) (zs : List Int) (w : World) (hN : Nums p0 A c zs w.heap.size w) :
    CallsIn Fence.wide n Try.prog 62 #[.pointer p0, .int .i64 least] w (Gives 3 (iv (kvL (pickL least zs zs.length))) w) := by
  have h1 : 1 ≤ n := by omega
  have hm := hN.1
  obtain ⟨i0, hi, hz0, hz1, hz2⟩ := info_parts Try.infoI64
  refine callsIn_of_wp_marks Try.func62 rfl trivial ?_ rfl
  simp only [Try.ntmps62, List.size_toArray, List.length_cons, List.length_nil, Nat.reduceAdd, Nat.reduceSub, Array.replicate_succ, Array.replicate_zero, List.push_toArray, List.append_toArray, List.nil_append, List.cons_append]
  gi_wp2_with (refine ⟨trivial, ?_⟩; gi_at_call 68; refine (those_in (n - 1) _ _ _).mono ?_; rintro e w' ⟨rfl, rfl⟩)
  have bS := Boxed.new w 42 (.slice none 0 0)
  have bX := Boxed.new (w.alloc (.cells #[.slice none 0 0] 42)) 47 (.pointer p0)
  have bL := Boxed.new ((w.alloc (.cells #[.slice none 0 0] 42)).alloc (.cells #[.pointer p0] 47)) 3 (.int .i64 least)
  rw [World.size_alloc] at bX bL
  rw [World.size_alloc] at bL
  obtain ⟨w1, hw1⟩ : ∃ w1, w1 = (((w.alloc (.cells #[.slice none 0 0] 42)).alloc (.cells #[.pointer p0] 47)).alloc (.cells #[.int .i64 least] 3)) := ⟨_, rfl⟩
  have hsz : w1.heap.size = w.heap.size + 3 := by rw [hw1]; simp
  have hB0 : Below w.heap.size w w1 := by
    rw [hw1]
    exact (((Below.refl _ w).alloc (Nat.le_refl _) _).alloc (by simp) _).alloc (by simp; omega) _
  have bS1 : Boxed w1 w.heap.size 42 (.slice none 0 0) := by rw [hw1]; exact (bS.alloc _).alloc _
  have bX1 : Boxed w1 (w.heap.size + 1) 47 (.pointer p0) := by rw [hw1]; exact bX.alloc _
  have bL1 : Boxed w1 (w.heap.size + 1 + 1) 3 (.int .i64 least) := by rw [hw1]; exact bL
  rw [← hw1]
  clear bS bX bL hw1
  refine wpIn_rangeFunc_ownG rfl h1 (gf := 74) (lb := #[.pointer (some ⟨w.heap.size + 1, 0, none⟩), .pointer (some ⟨w.heap.size + 1 + 1, 0, none⟩)]) rfl trivial (enters_of Try.func74 (by kernel_rfl) rfl)
    (those_stops (n - 1) (by omega) (w.heap.size + 1) (w.heap.size + 1 + 1) w.heap.size p0 A c least zs w1 (by omega) (by omega) (by omega) bX1.cell bL1 (hN.below hB0)) KpL.trans (KpL.turn (by omega) (by omega)) (Below.refl _ _) (fun _ => rfl)
    (fun pre W => (∃ v, Boxed W w.heap.size 42 v ∧ W.ownsRow (w.heap.size + 3) 3 1 v pre.length (iv (kvL pre)) ∧ True) ∧ Below w.heap.size w1 W)
    (fun _ _ _ => False)
    (OwnFrom.and (Own.from (holdsRow_own (w.heap.size + 3) w.heap.size 42 3 1 (fun pre => pre.length) (fun pre => iv (kvL pre)) (fun _ _ => True)) _) (ownFrom_below (by omega) (by omega)))
    (fun _ _ _ _ _ hs _ _ => hs)
    ⟨⟨_, bS1, World.ownsRow_nil _ _ _ _, trivial⟩, Below.refl _ _⟩
    (fun x => { tmps := #[.pointer p0, .int .i64 least, undef, undef, .slice none 0 0, .pointer (some ⟨w.heap.size, 0, none⟩), .int .i64 (x.1 : Int), .pointer p0, .int .i64 least, .func (.func 74) #[] #[.pointer (some ⟨w.heap.size + 1, 0, none⟩), .pointer (some ⟨w.heap.size + 1 + 1, 0, none⟩)], .int .i64 (x.1 : Int), .int .i64 x.2, undef, undef, undef, undef, undef], defers := [] }) ?assign ?body ?done ?stop
  case assign =>
    intro l x W K hK
    gi_wp2
    exact hK
  case body =>
    rintro l pre x W ⟨⟨v, hv, hrow, -⟩, hB⟩ hlt
    have hc := hv.cell
    have hWs := hB.size
    have hrow0 := own_mono hrow (show w.heap.size ≤ w.heap.size + 3 by omega)
    gi_wp2_with (gi_at_builtin; refine wpListIn_append_own _ rfl _ _ 42 rfl (w.heap.size + 3) 3 i0 (.int .i64 0) 1 8 Try.underlying42 hi hz0 hz1 hz2 rfl (by decide) _ _ _ rfl (hrow.alloc _) ⟨W.heap.size, 0, none⟩ 1 1 [.int .i64 (x.1 : Int)] rfl rfl (cell_one_new _ _ _) (by simp [Value.oneCell']) (by simp only [maxLen]; omega) (by omega) (by simp; omega) ?_; intro v' w2 hown' hgrow _; obtain ⟨g', cap', rfl⟩ := ownsRow_succ hown'; obtain ⟨hv1, hv2, hr2, hk2, hb2⟩ := hv.appended (by decide) hrow0 (by omega) (Nat.le_refl _) (own_mono hown' (show w.heap.size ≤ w.heap.size + 3 by omega)) hgrow; have hc1 := hv1.cell; have hf1 := hv1.frozen)
    have hr3 := hown'.kept (grownBy_setCell' w2 w.heap.size (.slice (some ⟨g', 0, none⟩) (pre.length + 1) cap')) (.inr (hv1.not_row (by decide) hown').symm)
    have hbl : (w2.setCell ⟨w.heap.size, 0, none⟩ (.slice (some ⟨g', 0, none⟩) (pre.length + 1) cap')).heap[w.heap.size + 1 + 1]? = W.heap[w.heap.size + 1 + 1]? :=
      (heap_setCell_other w2 ⟨w.heap.size, 0, none⟩ _ _ (by simp; omega)).trans ((hgrow.block (w.heap.size + 1 + 1) (by simp; omega) (fun e => by have := own_ge hrow e.symm; omega)).trans (Below.heap_alloc W _ _ (by omega)))
    exact ⟨hk2.from _, ⟨hb2, hbl⟩, ⟨_, hv2, by rw [List.length_append, kvL_snoc]; exact hr3, trivial⟩, hB.trans hb2⟩
  case done =>
    rintro D ys W hD rfl ⟨⟨v, hv, hrow, -⟩, hB⟩ hK
    have hc := hv.cell
    gi_wp2
    refine ⟨by simp, .inl ⟨_, _, rfl, run_takeDeferred hK, ?_⟩⟩
    obtain ⟨A', c', rfl⟩ := own_form hrow
    have hrow' := own_mono (ownsRow_putObj hrow (.deferred none) hK rfl) (show w.heap.size ≤ w.heap.size + 3 by omega)
    have hlen : (iv (kvL (pickL least zs zs.length))).length = (pickL least zs zs.length).length := by rw [iv_len, kvL_len]
    exact ⟨_, results_tmp rfl _ _ _, A', c', by rw [hlen]; rfl, by rw [hlen]; exact hrow', (hB0.trans hB).trans (belowK_b (w := w) (Nat.le_refl _) W D _ _ (by omega) hK rfl rfl)⟩
  case stop =>
    rintro D c pre W _ _ h _
    exact h.elim
end Go.Proofs.Ytnebmkkaobedaaa
