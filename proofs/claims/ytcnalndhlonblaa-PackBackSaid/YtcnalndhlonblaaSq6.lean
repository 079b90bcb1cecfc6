/-
  Chapter 44: Squeeze of the program, walked.
-/
import Derived.Test.YtcnalndhlonblaaSq2
import Derived.Test.YtcnalndhlonblaaSq5
namespace Go.Proofs.Ytcnalndhlonblaa
open Go.RowKit Go.Shelf
theorem ne_of_away {W : World} {row : Option Nat} (hr : ∀ r, row = some r → ∃ o : Obj, W.heap[r]? = some o ∧ o.isCells = false) {k : Nat} (hk : ∀ o : Obj, W.heap[k]? = some o → o.isCells = true) : row ≠ some k := by
  intro e
  obtain ⟨o, h1, h2⟩ := hr k e
  rw [hk o h1] at h2
  cases h2
theorem SqI.away {w w' : World} {B g : Nat} {A1 : Option Addr} {m1 c1 : Nat} {out : List UInt8} {A2 : Option Addr} {m2 c2 : Nat} {wait : List UInt8} {row : Option Nat} (h : SqI w B g A1 m1 c1 out A2 m2 c2 wait) (hg : w.grownBy w' row)
    (hr : ∀ r, row = some r → ∃ o : Obj, w.heap[r]? = some o ∧ o.isCells = false) : SqI w' B g A1 m1 c1 out A2 m2 c2 wait := by
  refine ⟨(hg.block g (heap_lt h.box) (fun e => ne_of_away hr (k := g) (fun o ho => by rw [h.box] at ho; cases ho; rfl) e.symm)).trans h.box, h.own.kept hg ?_, h.tl.kept hg (fun k hk => ne_of_away hr (fun o ho => tail_isCells h.tl k o hk ho)), h.ne, Nat.le_trans h.bs hg.size⟩
  cases hv : (Value.slice A1 m1 c1).ownBlock with
  | none => exact .inl rfl
  | some k => exact .inr (ne_of_away hr (fun o ho => own_isCells h.own k o hv ho)).symm
/-- the squeezer's state as a round's own -/
def SqR (B g : Nat) (b : List UInt8) (pre : List (Spot b)) (W : World) : Prop :=
  ∃ A1 m1 c1 A2 m2 c2, SqI W B g A1 m1 c1 (sqL b (pre.map (·.1))).1 A2 m2 c2 (sqL b (pre.map (·.1))).2 ∧ m1 + 2 * m2 ≤ 12000 * pre.length
theorem SqR.own (B g : Nat) (b : List UInt8) : Own (SqR B g b) := by
  rintro pre W W' row ⟨A1, m1, c1, A2, m2, c2, h, hm⟩ hg hr
  exact ⟨A1, m1, c1, A2, m2, c2, h.away hg hr, hm⟩
theorem heap_new_at {w : World} {k : Nat} (h : k = w.heap.size) (o : Obj) : (w.alloc o).heap[k]? = some o := by subst h; exact heap_alloc_new w o
section
attribute [local go_sem] Oper.semAt_some
set_option maxRecDepth 100000 in
set_option maxHeartbeats 2000000 in
theorem squeeze_in (n : Nat) (hn : 3 ≤ n) (A : Option Addr) (c : Nat) (b : List UInt8) (hs : b.length ≤ 6000) (w : World) (hr : Reads w w.heap.size A (bv b)) :
    CallsIn Fence.wide n Try.prog 45 #[.slice A b.length c] w (Gives 5 (bv (squeezeL b)) w) := by
  have h1 : 1 ≤ n := by omega
  have hm : b.length ≤ reachBytes := by simp only [reachBytes]; omega
  refine callsIn_of_wp_marks Try.func45 rfl trivial ?_ rfl
  simp only [Try.ntmps45, List.size_toArray, List.length_cons, List.length_nil, Nat.reduceAdd, Nat.reduceSub, Array.replicate_succ, Array.replicate_zero, List.push_toArray, List.append_toArray, List.nil_append, List.cons_append]
  gi_wp2_with (refine ⟨trivial, ?_⟩; gi_at_call 69; refine (runs_in (n - 1) _ _ _ _).mono ?_; rintro e w' ⟨rfl, rfl⟩)
  obtain ⟨w1, hw1⟩ : ∃ w1, w1 = (((w.alloc (.cells #[.slice A b.length c] 43)).alloc (.cells #[.slice none 0 0, .slice none 0 0] 112)).alloc (.cells #[.slice A b.length c] 43)) := ⟨_, rfl⟩
  have hsz : w1.heap.size = w.heap.size + 3 := by rw [hw1]; simp
  have hB0 : Below w.heap.size w w1 := by
    rw [hw1]
    exact (((Below.refl _ w).alloc (Nat.le_refl _) _).alloc (by simp) _).alloc (by simp; omega) _
  have bX0 : w1.heap[w.heap.size]? = some (.cells #[.slice A b.length c] 43) := by
    rw [hw1]
    exact heap_alloc' (heap_alloc' (heap_alloc_new w _) _) _
  have bX1 : w1.heap[w.heap.size + 1]? = some (.cells #[.slice none 0 0, .slice none 0 0] 112) := by
    rw [hw1]
    exact heap_alloc' (heap_new_at (by simp) _) _
  have bX2 : w1.heap[w.heap.size + 2]? = some (.cells #[.slice A b.length c] 43) := by
    rw [hw1]
    exact heap_new_at (by simp) _
  rw [← hw1]
  clear hw1
  refine wpIn_rangeFunc_ownG rfl h1 (gf := 85) (lb := #[.pointer (some ⟨w.heap.size + 2, 0, none⟩)]) rfl trivial (enters_of Try.func85 (by kernel_rfl) rfl)
    (runs_stops_at (n - 1) (by omega) (w.heap.size + 2) w.heap.size A c b hm w1 (by omega) (by omega) bX2 (hr.below hB0)) KpS.trans (KpS.turn (by omega) (by omega)) (Below.refl _ _) (fun _ => rfl)
    (fun pre W => SqR (w.heap.size + 3) (w.heap.size + 1) b pre W ∧ Below (w.heap.size + 1) w1 W)
    (fun _ _ _ => False)
    (OwnFrom.and ((SqR.own _ _ b).from _) (ownFrom_below (by omega) (by omega)))
    (fun _ _ _ _ _ hs _ _ => hs)
    ⟨⟨none, 0, 0, none, 0, 0, ⟨bX1, World.ownsRow_nil _ _ _ _, Tail.nil _ _ _, (fun k hk => by simp [Value.ownBlock] at hk), by omega⟩, by omega⟩, Below.refl _ _⟩
    (fun x => { tmps := #[.slice A b.length c, .pointer (some ⟨w.heap.size, 0, none⟩), .slice none 0 0, .pointer (some ⟨w.heap.size + 1, 0, none⟩), .int .i64 (x.1.1 : Int), .int .i64 (x.1.2 : Int), .slice A b.length c, .func (.func 85) #[] #[.pointer (some ⟨w.heap.size + 2, 0, none⟩)], .int .i64 (x.1.1 : Int), .int .i64 (x.1.2 : Int), undef, undef, undef, undef, undef, undef, undef, undef, undef], defers := [] }) ?assign ?body ?done ?stop
  case assign =>
    intro l x W K hK
    gi_wp2
    exact hK
  case body =>
    rintro l pre ⟨⟨x1, x2⟩, hx1, hx2⟩ W ⟨⟨A1, m1, c1, A2, m2, c2, hS, hmm⟩, hB⟩ hlt
    replace hx1 : x1 < b.length := hx1
    replace hx2 : x1 + x2 ≤ b.length := hx2
    have hbs := hS.bs
    have hX0 : W.heap[w.heap.size]? = some (.cells #[.slice A b.length c] 43) := (hB.block _ (by omega)).trans bX0
    have q0 := heap_cell hX0 0 rfl
    obtain ⟨ad, hA, -, hci⟩ := (hr.below (hB0.trans (hB.mono (by omega)))).at_ (k := x1) (by rw [bv_len]; exact hx1)
    replace hci : W.cell? (ad.add x1) = some (.int .u8 ((b[x1]?.getD 0).toNat : Int)) := by
      rw [hci, List.getElem?_eq_getElem hx1]
      simp [bv]
    have i0' : (0 : Int) ≤ (x1 : Int) := by omega
    have i1 : (x1 : Int) < (b.length : Int) := by omega
    have HS := Lib.hid hS
    have HSN := Lib.hid (show sqL b ((pre ++ [(⟨(x1, x2), hx1, hx2⟩ : Spot b)]).map (·.1)) = runT (b[x1]?.getD 0) x2 ((sqL b (pre.map (·.1))).1, (sqL b (pre.map (·.1))).2) by rw [List.map_append]; exact sqL_snoc b _ (x1, x2))
    have hrun := sqrun_any HS.out (b[x1]?.getD 0) x2 (by omega)
    have HRUN := Lib.hid hrun
    subst hA
    generalize b[x1]?.getD 0 = y at *
    clear hS hrun
    dsimp only
    gi_wp2_with (refine ⟨trivial, fun _ => by omega, ?_⟩; refine (CallsIn.inRound l (callsIn_wide.2 HRUN.out)).mono ?_; rintro e w5 ⟨rfl, A3, m3, c3, A4, m4, c4, hS5, hm5, hC5⟩)
    have hbel : Below (w.heap.size + 1) W w5 := ⟨hC5.os, hC5.tape, hC5.output, hC5.size, fun k hk => hC5.block k (by omega) (by omega)⟩
    exact ⟨hC5.others.from _, ⟨hbel.mono (by omega), hC5.block _ (by omega) (by omega)⟩, ⟨A3, m3, c3, A4, m4, c4, by rw [HSN.out]; exact hS5, by rw [List.length_append, List.length_singleton]; omega⟩, hB.trans hbel⟩
  case done =>
    rintro D ys W hD hys ⟨⟨A1, m1, c1, A2, m2, c2, hS, hmm⟩, hB⟩ hK
    have hyl : ys.length ≤ b.length := by
      have h5 := restL_len b b.length 0 (by omega)
      rw [← hys, List.length_map] at h5
      omega
    rw [hys] at hS
    have HFL := Lib.hid (flush_any hS (by omega))
    have HSQ := Lib.hid (show squeezeL b = (sqL b (restL b 0)).1 ++ lone (sqL b (restL b 0)).2 from rfl)
    clear hS hys
    gi_wp2_with (refine ⟨trivial, ?_⟩; refine (callsIn_wide.2 HFL.out).mono ?_; rintro e w5 ⟨rfl, A3, m3, c3, A4, c4, hS5, hm5, hC5⟩; have q0 : w5.cell? ⟨w.heap.size + 1, 0, none⟩ = some (.slice A3 m3 c3) := heap_cell hS5.box 0 rfl; have HS5 := Lib.hid hS5; have HC5 := Lib.hid hC5; have HK := Lib.hid hK; clear hS5 hC5 hK)
    have hK' := HC5.out.others.same D _ HK.out rfl
    refine ⟨by simp, .inl ⟨_, _, rfl, run_takeDeferred hK', ?_⟩⟩
    have hrow' := own_mono (ownsRow_putObj HS5.out.own (.deferred none) hK' rfl) (show w.heap.size ≤ w.heap.size + 3 by omega)
    rw [← HSQ.out] at hrow'
    have hlen : m3 = (bv (squeezeL b)).length := by
      rw [bv_len, HSQ.out]
      exact HS5.out.l1
    have hbel : Below w.heap.size W w5 := ⟨HC5.out.os, HC5.out.tape, HC5.out.output, HC5.out.size, fun k hk => HC5.out.block k (by omega) (by omega)⟩
    rw [hlen] at hrow'
    exact ⟨_, results_tmp rfl _ _ _, A3, c3, by rw [hlen]; rfl, hrow', ((hB0.trans (hB.mono (by omega))).trans hbel).trans (belowK_b (w := w) (Nat.le_refl _) w5 D _ _ (by omega) hK' rfl rfl)⟩
  case stop =>
    rintro D c pre W _ _ h _
    exact h.elim
end
theorem squeeze_any (A : Option Addr) (c : Nat) (b : List UInt8) (hs : b.length ≤ 6000) (w : World) (hr : Reads w w.heap.size A (bv b)) :
    Calls Try.prog 45 #[.slice A b.length c] w (Gives 5 (bv (squeezeL b)) w) :=
  callsIn_wide.1 (squeeze_in 3 (by omega) A c b hs w hr)
end Go.Proofs.Ytcnalndhlonblaa
