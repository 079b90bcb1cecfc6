/-
  Chapter 7: node.shape, walked.
-/
import Derived.Test.YtilkcecjciiboaaNod1
import Derived.Test.YtilkcecjciiboaaNod10
import Derived.Test.YtilkcecjciiboaaRef1C
namespace Go.Proofs.Ytilkcecjciiboaa
open Go.RowKit
attribute [local go_sem ↓] Go.wp_at_zero Go.wp_at_succ
theorem shape_iff (l : List UInt8) (h : l.length = 244) : shapeOk l = true ↔ (n0 l : Int) ≤ 1 ∧ widthV (n1 l) (lfN l) ≠ 0 ∧ (n2 l : Int) ≤ (maxV (n1 l) (lfN l) : Int) ∧ (n3 l : Int) = widthV (n1 l) (lfN l) ∧ (n4 l : Int) = (maxV (n1 l) (lfN l) : Int) ∧ (n5 l : Int) = 0 ∧ (lfN l = true ∨ 0 < (n2 l : Int)) := by
  have hc := wm_cases (n1 l) (lfN l)
  have hw : widthV (n1 l) (lfN l) = (wB l : Int) := by unfold wB; omega
  have hm : maxV (n1 l) (lfN l) = mB l := rfl
  unfold shapeOk headOk
  rw [decide_eq_true_iff, decide_eq_true_iff, hw, hm, h]
  constructor
  · rintro ⟨⟨_, h1, h2⟩, h3, h4, h5, h6, h7⟩
    exact ⟨by omega, h2, by omega, by omega, by omega, by omega, h7.imp id (by omega)⟩
  · rintro ⟨h1, h2, h3, h4, h5, h6, h7⟩
    exact ⟨⟨rfl, by omega, h2⟩, by omega, by omega, by omega, by omega, h7.imp id (by omega)⟩
theorem shape_len (l : List UInt8) (h : l.length ≠ 244) : shapeOk l = false := by
  unfold shapeOk headOk
  rw [decide_eq_false_iff_not, decide_eq_true_iff]
  exact fun h1 => h h1.1.1
theorem results_cell_tmp2 {fn : Func} {p u v : Tmp} {ty : TypeId} (h : fn.results = #[.cell p ty, .tmp u, .tmp v]) (tmps : Array Value) (P : Program) (w : World) :
    (results fn tmps).run P w =
      ((asAddr (tmps.getD p undef)).run P w).andThen fun a w₁ => ((loadVar ty a).run P w₁).andThen fun x w₂ => .ok (.tuple #[x, tmps.getD u undef, tmps.getD v undef]) w₂ := by
  simp only [results, h]
  simp [Sem.run_bind, Result.andThen]
theorem below_set4 {f : Nat} {w w1 : World} (h : Below f w w1) (a b c d : Value) : Below f w ((((w1.setCell ⟨f, 0, none⟩ a).setCell ⟨f, 1, none⟩ b).setCell ⟨f, 2, none⟩ c).setCell ⟨f, 3, none⟩ d) :=
  (((h.setCell (p := ⟨f, 0, none⟩) (Nat.le_refl f) _).setCell (p := ⟨f, 1, none⟩) (Nat.le_refl f) _).setCell (p := ⟨f, 2, none⟩) (Nat.le_refl f) _).setCell (p := ⟨f, 3, none⟩) (Nat.le_refl f) _
def GivesS (l : List UInt8) (w : World) (e : Ending) (w' : World) : Prop :=
  ∃ (t : Int) (lf : Bool) (k : Int), e = .returned (.tuple #[.agg #[.int .i64 t, .bool lf, .slice none 0 0, .slice none 0 0], .int .i64 k, .bool (shapeOk l)]) ∧ (shapeOk l = true → t = n1 l ∧ lf = lfN l ∧ k = n2 l) ∧ Below w.heap.size w w'
theorem node_zero (w : World) : ∃ b, b = w.alloc (.cells #[.int .i64 0, .bool false, .slice none 0 0, .slice none 0 0] 31) := ⟨_, rfl⟩
set_option maxRecDepth 100000 in
set_option maxHeartbeats 4000000 in
theorem shape_any (A : Option Addr) (c : Nat) (l : List UInt8) (w : World) (hm : l.length ≤ reachBytes) (h : Reads w w.heap.size A (bv l)) :
    Calls Try.prog 87 #[.slice A l.length c] w (GivesS l w) := by
  have HM := Lib.hid hm
  simp only [reachBytes] at hm
  by_cases hl : l.length = 244
  case neg =>
    have HS := Lib.hid (shape_len l hl)
    have HB1 := below_alloc1 w (.cells #[.int .i64 0, .bool false, .slice none 0 0, .slice none 0 0] 31)
    have hblk := heap_alloc_new w (.cells #[.int .i64 0, .bool false, .slice none 0 0, .slice none 0 0] 31)
    have q0 := heap_cell hblk 0 rfl
    have q1 := heap_cell hblk 1 rfl
    have q2 := heap_cell hblk 2 rfl
    have q3 := heap_cell hblk 3 rfl
    have z0 := heap_free hblk 0
    have z1 := heap_free hblk 1
    have z2 := heap_free hblk 2
    have z3 := heap_free hblk 3
    have d1 : ((l.length : Int) != 244) = true := by rw [bne_iff_ne]; omega
    clear hl hblk
    go_enter Try.func87, Try.ntmps87
    go_upto_region 1 with fail
    generalize hw1 : w.alloc (.cells #[.int .i64 0, .bool false, .slice none 0 0, .slice none 0 0] 31) = w1 at *
    clear hw1
    go_wp2
    try simp only [Exit.inBlock, Exit.then]
    refine bodyPost_ret (v := .tuple #[.agg #[.int .i64 0, .bool false, .slice none 0 0, .slice none 0 0], .int .i64 0, .bool false]) (by rw [results_cell_tmp2 rfl]; go_simp) rfl ?_
    refine ⟨0, false, 0, ?_, ?_, below_set4 HB1 _ _ _ _⟩
    · rw [HS.out]
    · intro h; rw [HS.out] at h; cases h
  obtain ⟨u1, u2, u3⟩ := unp6 l (by omega)
  have HI := Lib.hid (shape_iff l hl)
  have HLF := Lib.hid (show ∀ y : Int, y = (n0 l : Int) → lfN l = (y == 1) from fun y hy => by
    subst hy
    unfold lfN
    rw [Bool.eq_iff_iff, decide_eq_true_iff, beq_iff_eq]
    omega)
  have HW := Lib.hid (fun W => width_any (n1 l) (lfN l) W)
  have HX := Lib.hid (fun W => max_any (n1 l) (lfN l) W)
  have KU := fun (V : World) (hb : Below w.heap.size w V) => unpack_any A c l (some ⟨V.heap.size, 0, none⟩) 6 [1, 1, 2, 2, 2, 4] (V.alloc (.cells #[.int .i64 1, .int .i64 1, .int .i64 2, .int .i64 2, .int .i64 2, .int .i64 4] 3)) HM.out (by decide) ((h.ext hb).ext (below_alloc1 V _)) (by
    have := Reads.new V [.int .i64 1, .int .i64 1, .int .i64 2, .int .i64 2, .int .i64 2, .int .i64 4] 3 (0, 0)
    exact (show Reads _ (V.heap.size + 1) _ (iv [1, 1, 2, 2, 2, 4]) from this).more (by simp))
  rw [u1, u2] at KU
  have HR : Hid (shapeOk l = true → (n1 l : Int) = n1 l ∧ lfN l = lfN l ∧ (n2 l : Int) = n2 l) := Lib.hid fun _ => ⟨rfl, rfl, rfl⟩
  have HG := Lib.hid (show ∀ (e : Ending) (w' : World), (∃ (t : Int) (lf : Bool) (k : Int), e = .returned (.tuple #[.agg #[.int .i64 t, .bool lf, .slice none 0 0, .slice none 0 0], .int .i64 k, .bool (shapeOk l)]) ∧ (shapeOk l = true → t = n1 l ∧ lf = lfN l ∧ k = n2 l) ∧ Below w.heap.size w w') → GivesS l w e w' from fun _ _ h => h)
  clear HR
  generalize widthV (n1 l) (lfN l) = W at *
  generalize maxV (n1 l) (lfN l) = M at *
  generalize hlf : lfN l = lf at *
  have HLF2 := Lib.hid (HLF.out _ rfl)
  clear HLF hlf
  generalize shapeOk l = ok at *
  obtain ⟨y0, hy0⟩ : ∃ y, y = (n0 l : Int) := ⟨_, rfl⟩
  obtain ⟨y1, hy1⟩ : ∃ y, y = (n1 l : Int) := ⟨_, rfl⟩
  obtain ⟨y2, hy2⟩ : ∃ y, y = (n2 l : Int) := ⟨_, rfl⟩
  obtain ⟨y3, hy3⟩ : ∃ y, y = (n3 l : Int) := ⟨_, rfl⟩
  obtain ⟨y4, hy4⟩ : ∃ y, y = (n4 l : Int) := ⟨_, rfl⟩
  obtain ⟨y5, hy5⟩ : ∃ y, y = (n5 l : Int) := ⟨_, rfl⟩
  rw [← hy0] at HI KU HLF2
  rw [← hy1] at HW HX KU HG
  rw [← hy2] at HI KU HG
  rw [← hy3] at HI KU
  rw [← hy4] at HI KU
  rw [← hy5] at HI KU
  have hz2 : 0 ≤ y2 := by omega
  clear hy0 hy1 hy2 hy3 hy4 hy5 u1 u2 u3
  obtain ⟨Mi, hMi⟩ : ∃ y, y = (M : Int) := ⟨_, rfl⟩
  rw [← hMi] at HX HI
  clear hMi
  have HB1 := Lib.hid (below_alloc1 w (.cells #[.int .i64 0, .bool false, .slice none 0 0, .slice none 0 0] 31))
  have HK1 := Lib.hid (heap_alloc_new w (.cells #[.int .i64 0, .bool false, .slice none 0 0, .slice none 0 0] 31))
  have hs1 : (w.alloc (.cells #[.int .i64 0, .bool false, .slice none 0 0, .slice none 0 0] 31)).heap.size = w.heap.size + 1 := by simp
  have HS1 := Lib.hid hs1
  have K1 := KU _ HB1.out
  have hl2 : (l.length : Int) = 244 := by omega
  clear hs1 KU h hm hl
  go_enter Try.func87, Try.ntmps87
  go_upto_region 1 with fail
  generalize w.alloc (.cells #[.int .i64 0, .bool false, .slice none 0 0, .slice none 0 0] 31) = w1 at *
  go_wp2_with fail
  refine K1.mono ?_
  rintro e w3 ⟨A3, c3, rfl, hown, hb⟩
  rw [iv_len, show [y0, y1, y2, y3, y4, y5].length = 6 from rfl] at hown
  rw [iv_len, show [y0, y1, y2, y3, y4, y5].length = 6 from rfl]
  obtain ⟨g, rfl, hc⟩ := own_cells hown (by omega)
  have k0 := hc 0 _ rfl
  have k1 := hc 1 _ rfl
  have k2 := hc 2 _ rfl
  have k3 := hc 3 _ rfl
  have k4 := hc 4 _ rfl
  have k5 := hc 5 _ rfl
  have HB3 := Lib.hid (below_then HB1.out (below_then (below_alloc1 w1 _) hb))
  have HK3 := Lib.hid (heap_keep (heap_keep HK1.out (below_alloc1 w1 _)) hb)
  have hgl : g < w3.heap.size := by
    obtain ⟨ad, e, hlt, _⟩ := (Reads.of_own hown).at_ (k := 0) (by simp [iv])
    injection e with e
    subst e
    exact hlt
  have hge : w.heap.size < g := by
    have hsz : (w1.alloc (.cells #[.int .i64 1, .int .i64 1, .int .i64 2, .int .i64 2, .int .i64 2, .int .i64 4] 3)).heap.size = w.heap.size + 1 + 1 := by rw [← HS1.out]; simp
    rcases hown.2 with ⟨hv, hz⟩ | ⟨g', cap, cur, hv, hge, _, _, _⟩
    · omega
    · injection hv with e1
      injection e1 with e1
      injection e1 with e1
      omega
  have hlt4 : w.heap.size < w3.heap.size := by omega
  have n1 : ¬ g = w.heap.size := by omega
  have n2 : ¬ w.heap.size = g := by omega
  have n3 : ¬ w3.heap.size = w.heap.size := by omega
  have n4 : ¬ w.heap.size = w3.heap.size := by omega
  have HGK := Lib.hid (fun (o : Obj) j => World.cell?_alloc_lt w3 o ⟨g, j, none⟩ hgl)
  have m0 := ((HGK.out (.cells #[.int .i64 0, .bool false, .slice none 0 0, .slice none 0 0] 31) 0).trans k0)
  have m1 := ((HGK.out (.cells #[.int .i64 0, .bool false, .slice none 0 0, .slice none 0 0] 31) 1).trans k1)
  clear K1 hc hown hb HK1 HB1 hgl hge hlt4 HS1
  go_upto_region 4 with fail
  go_region
  rw [← HLF2.out]
  have HB4 := Lib.hid (below_then HB3.out (below_alloc1 w3 (.cells #[.int .i64 y1, .bool lf, .slice none 0 0, .slice none 0 0] 31)).drew)
  have hk4 : (w3.alloc (.cells #[.int .i64 y1, .bool lf, .slice none 0 0, .slice none 0 0] 31)).drew.heap[w3.heap.size]? = some (.cells #[.int .i64 y1, .bool lf, .slice none 0 0, .slice none 0 0] 31) := heap_alloc_new w3 _
  have HK4 := Lib.hid (heap_keep HK3.out (below_alloc1 w3 (.cells #[.int .i64 y1, .bool lf, .slice none 0 0, .slice none 0 0] 31)).drew)
  have hcc := fun (i : Nat) => HGK.out (.cells #[.int .i64 y1, .bool lf, .slice none 0 0, .slice none 0 0] 31) i
  have k0 := (show (w3.alloc (.cells #[.int .i64 y1, .bool lf, .slice none 0 0, .slice none 0 0] 31)).drew.cell? ⟨g, 0, none⟩ = _ from (hcc 0).trans k0)
  have k1 := (show (w3.alloc (.cells #[.int .i64 y1, .bool lf, .slice none 0 0, .slice none 0 0] 31)).drew.cell? ⟨g, 1, none⟩ = _ from (hcc 1).trans k1)
  have k2 := (show (w3.alloc (.cells #[.int .i64 y1, .bool lf, .slice none 0 0, .slice none 0 0] 31)).drew.cell? ⟨g, 2, none⟩ = _ from (hcc 2).trans k2)
  have k3 := (show (w3.alloc (.cells #[.int .i64 y1, .bool lf, .slice none 0 0, .slice none 0 0] 31)).drew.cell? ⟨g, 3, none⟩ = _ from (hcc 3).trans k3)
  have k4 := (show (w3.alloc (.cells #[.int .i64 y1, .bool lf, .slice none 0 0, .slice none 0 0] 31)).drew.cell? ⟨g, 4, none⟩ = _ from (hcc 4).trans k4)
  have k5 := (show (w3.alloc (.cells #[.int .i64 y1, .bool lf, .slice none 0 0, .slice none 0 0] 31)).drew.cell? ⟨g, 5, none⟩ = _ from (hcc 5).trans k5)
  clear m0 m1 hcc HGK HLF2 HK3 HB3
  generalize (w3.alloc (.cells #[.int .i64 y1, .bool lf, .slice none 0 0, .slice none 0 0] 31)).drew = w4 at *
  have p0 := heap_cell hk4 0 rfl
  have p1 := heap_cell hk4 1 rfl
  have p2 := heap_cell hk4 2 rfl
  have p3 := heap_cell hk4 3 rfl
  have q0 := heap_cell HK4.out 0 rfl
  have q1 := heap_cell HK4.out 1 rfl
  have q2 := heap_cell HK4.out 2 rfl
  have q3 := heap_cell HK4.out 3 rfl
  have z0 := heap_free HK4.out 0
  have z1 := heap_free HK4.out 1
  have z2 := heap_free HK4.out 2
  have z3 := heap_free HK4.out 3
  clear hk4 HK4
  generalize w3.heap.size = b4 at *
  by_cases h1 : 1 < y0
  · have e : ok = false := by
      cases ok with
      | false => rfl
      | true => exact absurd (HI.out.1 (by first | rfl | trivial)).1 (by omega)
    subst e
    clear HI HW HX
    go_wp2
    try simp only [Exit.inBlock, Exit.then]
    refine bodyPost_ret (v := .tuple #[.agg #[.int .i64 0, .bool false, .slice none 0 0, .slice none 0 0], .int .i64 0, .bool false]) (by rw [results_cell_tmp2 rfl]; go_simp) rfl ?_
    exact HG.out _ _ ⟨0, false, 0, rfl, (fun h => by cases h), below_set4 HB4.out _ _ _ _⟩
  have d1 : decide (1 < y0) = false := decide_eq_false h1
  by_cases h2 : W = 0
  · have e : ok = false := by
      cases ok with
      | false => rfl
      | true => exact absurd h2 (HI.out.1 (by first | rfl | trivial)).2.1
    subst e
    clear HI HX h1
    go_wp2_with fail
    refine (HW.out _).mono ?_
    rintro e w5 ⟨rfl, rfl⟩
    rw [h2]
    clear HW h2
    go_wp2
    try simp only [Exit.inBlock, Exit.then]
    refine bodyPost_ret (v := .tuple #[.agg #[.int .i64 0, .bool false, .slice none 0 0, .slice none 0 0], .int .i64 0, .bool false]) (by rw [results_cell_tmp2 rfl]; go_simp) rfl ?_
    exact HG.out _ _ ⟨0, false, 0, rfl, (fun h => by cases h), below_set4 HB4.out _ _ _ _⟩
  have d2 : (W == 0) = false := by rw [beq_eq_false_iff_ne]; exact h2
  have H12 := Lib.hid (And.intro h1 h2)
  clear h1 h2
  go_wp2_with fail
  refine (HW.out _).mono ?_
  rintro e w5 ⟨rfl, rfl⟩
  have hwd := fun m => (show Calls Try.prog 24 #[.int .i64 y1, .bool lf] (w4.drewN m) fun e w' => e = .returned (.int .i64 W) ∧ w' = w4.drewN m from (HW.out _).mono fun e w' ⟨h1, h2⟩ => ⟨h1, h2.symm⟩)
  have hmx := fun m => (show Calls Try.prog 23 #[.int .i64 y1, .bool lf] (w4.drewN m) fun e w' => e = .returned (.int .i64 Mi) ∧ w' = w4.drewN m from (HX.out _).mono fun e w' ⟨h1, h2⟩ => ⟨h1, h2.symm⟩)
  clear HW HX
  go_upto_region 7 with fail
  go_quiet (first | (go_at_call 24; exact Calls.quiet_of_same (hwd _)) | (go_at_call 23; exact Calls.quiet_of_same (hmx _)))
  clear hwd hmx
  go_upto_region 8 with fail
  go_cut [10] (fun s10 wx => s10 = .bool ok ∧ ∃ m, wx = w4.drewN m)
  case first =>
    have bad : ¬ (y2 ≤ Mi ∧ y3 = W ∧ y4 = Mi ∧ y5 = 0 ∧ (lf = true ∨ 0 < y2)) → ok = false := fun h => by
      cases ok with
      | false => rfl
      | true => exact absurd (HI.out.1 (by first | rfl | trivial)).2.2 h
    have good : (y2 ≤ Mi ∧ y3 = W ∧ y4 = Mi ∧ y5 = 0 ∧ (lf = true ∨ 0 < y2)) → ok = true := fun h => HI.out.2 ⟨by have := H12.out.1; omega, H12.out.2, h⟩
    clear HI H12
    by_cases c1 : y2 ≤ Mi
    case neg =>
      have e := bad (fun h => c1 h.1)
      have d3 : decide (y2 ≤ Mi) = false := decide_eq_false c1
      subst e
      clear bad good c1
      go_wp2
      go_meet
      exact ⟨rfl, _, rfl⟩
    by_cases c2 : y3 = W
    case neg =>
      have e := bad (fun h => c2 h.2.1)
      have d3 : (y3 == W) = false := by rw [beq_eq_false_iff_ne]; exact c2
      subst e
      clear bad good c2
      go_wp2
      go_meet
      exact ⟨rfl, _, rfl⟩
    by_cases c3 : y4 = Mi
    case neg =>
      have e := bad (fun h => c3 h.2.2.1)
      have d3 : (y4 == Mi) = false := by rw [beq_eq_false_iff_ne]; exact c3
      subst e
      clear bad good c3
      go_wp2
      go_meet
      exact ⟨rfl, _, rfl⟩
    by_cases c4 : y5 = 0
    case neg =>
      have e := bad (fun h => c4 h.2.2.2.1)
      have d3 : (y5 == 0) = false := by rw [beq_eq_false_iff_ne]; exact c4
      subst e
      clear bad good c4
      go_wp2
      go_meet
      exact ⟨rfl, _, rfl⟩
    cases lf with
    | true =>
      have e := good ⟨c1, c2, c3, c4, .inl rfl⟩
      subst e c2 c3 c4
      clear bad good
      go_wp2
      go_meet
      exact ⟨rfl, _, rfl⟩
    | false =>
      by_cases c5 : 0 < y2
      · have e := good ⟨c1, c2, c3, c4, .inr c5⟩
        subst e c2 c3 c4
        clear bad good
        go_wp2
        go_meet
        exact ⟨rfl, _, rfl⟩
      · have e := bad (fun h => by rcases h.2.2.2.2 with h | h; cases h; exact c5 h)
        have d3 : decide (0 < y2) = false := decide_eq_false c5
        subst e c2 c3 c4
        clear bad good c5
        go_wp2
        go_meet
        exact ⟨rfl, _, rfl⟩
  case rest =>
    obtain ⟨rfl, m, rfl⟩ := hcut
    clear HI H12
    go_upto_region 9 with fail
    go_region
    go_wp2
    try simp only [Exit.inBlock, Exit.then]
    refine bodyPost_ret (v := .tuple #[.agg #[.int .i64 y1, .bool lf, .slice none 0 0, .slice none 0 0], .int .i64 y2, .bool ok]) (by rw [results_cell_tmp2 rfl]; go_simp) rfl ?_
    first | exact HG.out _ _ ⟨y1, lf, y2, rfl, fun _ => ⟨rfl, rfl, rfl⟩, (below_drewN (below_set4 HB4.out _ _ _ _) m).drew⟩ | exact HG.out _ _ ⟨y1, lf, y2, rfl, fun _ => ⟨rfl, rfl, rfl⟩, below_drewN (below_set4 HB4.out _ _ _ _).drew m⟩ | trace_state
end Go.Proofs.Ytilkcecjciiboaa
