/-
  Chapter 6: super.Read (under way).
-/
import Derived.Test.YtahomneljdjjjaaSup7
namespace Go.Proofs.Ytahomneljdjjjaa
open Go.RowKit

section
variable {P : Program}
theorem results_row_tmp {fn : Func} {p u : Tmp} {ty : TypeId} (h : fn.results = #[.cell p ty, .tmp u]) (tmps : Array Value) (w : World) (g : Nat) (t : TypeId) (cs : Array Value) (fr : Nat × Nat) (d : TypeDesc)
    (hp : tmps.getD p undef = .pointer (some ⟨g, 0, none⟩)) (hg : w.heap[g]? = some (.cells cs t fr))
    (hu : P.underlying ty = some d) (hd : (match d with | .struct _ | .array _ _ => true | _ => false) = true) (hi : (P.info? ty).map (·.size) = some cs.size) :
    (results fn tmps).run P w = .ok (.tuple #[.agg cs, tmps.getD u undef]) w := by
  rw [results_cell_tmp h, hp]
  simp [asAddr, Result.andThen, run_loadVar_row w g t ty cs fr d hg hu hd hi]
end
theorem supC_one (n : Nat → Int) : ∀ v ∈ (supC n).toList, v.oneCell' = true := by
  intro v hv
  simp [supC] at hv
  rcases hv with rfl | rfl | rfl | rfl | rfl | rfl | rfl | rfl | rfl | rfl | rfl <;> rfl
theorem sup_size (n : Nat → Int) : (Try.prog.info? 23).map (·.size) = some (supC n).size := by
  rw [show (supC n).size = 11 from rfl]
  kernel_rfl
set_option maxRecDepth 100000 in
set_option maxHeartbeats 2000000 in
theorem read_super (A : Option Addr) (c : Nat) (l : List UInt8) (w : World) (hm : l.length ≤ reachBytes) (h : Reads w w.heap.size A (bv l)) :
    Calls Try.prog 52 #[.slice A l.length c] w fun e w' => e = .returned (.tuple #[.agg (supC (readS l)), .int .i64 (readE l)]) ∧ Below w.heap.size w w' := by
  have hmm := hm
  simp only [reachBytes] at hmm
  have hsz := sup_size fun _ => 0
  by_cases hl : l.length = 244
  · have hp := fun W => put_super (readN l) (fun i _ => by
      have := readN_lt l i
      simp [Lit.wf, IntKind.min, IntKind.max, IntKind.bits, IntKind.signed]
      omega) W
    have hmid : supC (midN l 11) = supC (readN l) := supC_congr fun i hi => if_pos hi
    have hsz2 := sup_size (readN l)
    have hone := supC_one (readN l)
    have hea := fun wb g b r W h => eachread_any l hl wb g b r A c W h
    have heq := fun A1 c1 W B B2 h1 h2 => equalb_any A1 c1 A c (superB (readN l)) l W B B2 (by rw [superB_len]; decide) hm h1 h2
    rw [superB_len, hl] at heq
    have HB : Hid (supC (midN l 0) = supC fun _ => 0) := rfl
    have hr0 : ((w.alloc (.cells #[.slice A l.length c] 24)).alloc (.cells (supC fun _ => 0) 23)).heap[w.heap.size + 1]? = some (.cells (supC fun _ => 0) 23) := by
      have := heap_alloc_new (w.alloc (.cells #[.slice A l.length c] 24)) (.cells (supC fun _ => 0) 23)
      rw [World.size_alloc] at this
      exact this
    have hbx : Boxed ((w.alloc (.cells #[.slice A l.length c] 24)).alloc (.cells (supC fun _ => 0) 23)) w.heap.size 24 (.slice A l.length c) := (Boxed.new w _ _).alloc _
    have hBb := below_alloc2 w (.cells #[.slice A l.length c] 24) (.cells (supC fun _ => 0) 23)
    have hrd := h.below hBb
    have hsb : ((w.alloc (.cells #[.slice A l.length c] 24)).alloc (.cells (supC fun _ => 0) 23)).heap.size = w.heap.size + 2 := by simp
    have h0 : ∀ wb : World, wb.heap.size = w.heap.size + 2 → Boxed wb w.heap.size 24 (.slice A l.length c) → Reads wb w.heap.size A (bv l) →
        GInv l wb (w.heap.size + 2) w.heap.size (w.heap.size + 3) A c 0 ((wb.alloc (.cells (supC fun _ => 0) 23)).alloc (.cells #[.int .i64 12] 3)) := by
      intro wb hs hb hr
      have e1 := heap_alloc_new wb (.cells (supC fun _ => 0) 23)
      have e2 := Boxed.new (wb.alloc (.cells (supC fun _ => 0) 23)) 3 (.int .i64 12)
      rw [World.size_alloc] at e2
      rw [hs] at e1 e2
      refine ⟨by rw [HB.out]; exact heap_alloc' e1 _, (hb.alloc _).alloc _, e2, ?_, below_alloc2 wb _ _, by omega, by omega⟩
      exact (hr.more (by omega)).below (below_alloc2 wb _ _)
    have hZ : ∀ wb : World, wb.alloc (.cells (supC fun _ => 0) 23) = wb.alloc (.cells #[.int .i64 0, .int .i64 0, .int .i64 0, .int .i64 0, .int .i64 0, .int .i64 0, .int .i64 0, .int .i64 0, .int .i64 0, .int .i64 0, .int .i64 0] 23) := fun _ => rfl
    obtain ⟨wb, hwb⟩ : ∃ wb, (w.alloc (.cells #[.slice A l.length c] 24)).alloc (.cells #[.int .i64 0, .int .i64 0, .int .i64 0, .int .i64 0, .int .i64 0, .int .i64 0, .int .i64 0, .int .i64 0, .int .i64 0, .int .i64 0, .int .i64 0] 23) = wb := ⟨_, rfl⟩
    rw [hZ, hwb] at hr0 hbx hBb hrd hsb
    have hg0 := h0 wb hsb hbx hrd
    rw [hZ] at hg0
    have hr0' : wb.heap.size > w.heap.size + 1 := by omega
    have HWB := Lib.hid hwb
    have HL := Lib.hid hl
    have HSB := Lib.hid hsb
    have HRD := Lib.hid h
    have HV := Lib.hid (show ∀ ok, okS (readN l) 11 = ok → superV (readN l) = (if ok = true then superB (readN l) else []) ∧ superE (readN l) = (if ok = true then 0 else 1) from fun ok h => by unfold superV superE; rw [h]; exact ⟨rfl, rfl⟩)
    have HF := Lib.hid (show ∀ ok, okS (readN l) 11 = ok → ∀ q, decide (superB (readN l) = l) = q → readS l = (if (ok && q) = true then readN l else fun _ => 0) ∧ readE l = (if (ok && q) = true then 0 else 7) from fun ok h q h2 => by
      have : readOK l = (ok && q) := by unfold readOK; rw [decide_eq_true hl, h, h2]; rfl
      unfold readS readE
      rw [this]
      exact ⟨rfl, rfl⟩)
    rw [hl] at hwb ⊢
    rw [hl] at HWB
    clear h0 hZ h hwb
    go_enter Try.func52, Try.ntmps52
    go_wp2_with fail
    rw [HWB.out]
    refine (hea wb (w.heap.size + 2) w.heap.size (w.heap.size + 3) _ hg0).mono ?_
    rintro e w1 ⟨rfl, hi1⟩
    obtain ⟨i1, i2, i3, i4, i5, -, -⟩ := hi1
    rw [hmid] at i1
    rw [HL.out] at i2
    have hres := heap_keep hr0 i5
    have hB1 : Below w.heap.size w w1 := by
      have := i5.mono (show w.heap.size ≤ wb.heap.size by omega)
      exact hBb.trans this
    have hw1 : w.heap.size ≤ w1.heap.size := hB1.size
    clear hea hg0 i3 i4 i5 hmid hrd HSB hbx hr0' hBb hsb hr0 HB
    have HCS : Hid ((supC fun _ => 0).size = (supC (readN l)).size) := rfl
    have HSL := Lib.hid (superB_len (readN l))
    generalize hC : supC (readN l) = C at *
    have HC := Lib.hid hC
    clear hC
    generalize superB (readN l) = SB at *
    cases hok : okS (readN l) 11 with
    | false =>
      obtain ⟨v1, v2⟩ := HV.out false hok
      have HFF := Lib.hid (HF.out false hok _ rfl)
      rw [v1, v2] at hp
      clear v1 v2 hok HF HV heq
      go_wp2_with (refine wpList_load_row rfl 23 _ rfl (w.heap.size + 2) rfl 23 _ _ _ i1 Try.underlying23 rfl hsz2 ?_)
      refine (hp _).mono ?_
      rintro e w2 ⟨A2, c2, rfl, ho2, hb2⟩
      have hres2 := heap_keep hres hb2
      have hB2 := hB1.trans (hb2.mono hw1)
      clear hp ho2 hb2 i1 i2 hres
      go_wp2_with (refine wpList_store_whole rfl 23 _ _ rfl (w.heap.size + 1) (supC fun _ => 0) rfl rfl _ 23 hres2 rfl hsz (supC_one _) ?_; intro W3 h3 hg3 hs3)
      refine bodyPost_ret (v := .tuple #[.agg (supC fun _ => 0), .int .i64 7]) (results_row_tmp (p := 2) (u := 3) rfl _ _ (w.heap.size + 1) 23 (supC fun _ => 0) _ _ rfl h3 Try.underlying23 rfl hsz) rfl ⟨by rw [HFF.out.1, HFF.out.2]; rfl, ?_⟩
      exact hB2.grown hg3 hB2.size (fun k hk => by cases hk; omega)
    | true =>
      obtain ⟨v1, v2⟩ := HV.out true hok
      rw [v1, v2] at hp
      have hp2 : ∀ W, Calls Try.prog 17 #[.agg C] W (GivesE 5 (bv SB) 0 W) := hp
      clear hp v1 v2
      have hp := hp2
      clear hp2
      cases hq : decide (SB = l) with
      | false =>
        have HFF := Lib.hid (HF.out true hok false hq)
        rw [hq] at heq
        clear hok HF HV hq
        go_wp2_with (refine wpList_load_row rfl 23 _ rfl (w.heap.size + 2) rfl 23 _ _ _ i1 Try.underlying23 rfl hsz2 ?_)
        refine (hp _).mono ?_
        rintro e w2 ⟨A2, c2, rfl, ho2, hb2⟩
        have hres2 := heap_keep hres hb2
        have hB2 := hB1.trans (hb2.mono hw1)
        have hin : Boxed w2 w.heap.size 24 (.slice A 244 c) := heap_keep i2 hb2
        have hin2 := hin.cell
        have hr2 := HRD.out.below hB2
        rw [bv_len, HSL.out] at ho2
        rw [bv_len, HSL.out]
        have hr3 := Reads.of_own ho2
        clear hp ho2 hb2 i1 i2 hres
        go_wp2_with fail
        refine (heq _ _ _ _ _ hr3 hr2).mono ?_
        rintro e w3 ⟨rfl, hb3⟩
        have hres3 := heap_keep hres2 hb3
        have hB3 := below_then hB2 hb3
        clear heq hres2 hb3 hr3 hr2 hin hin2
        go_wp2_with (refine wpList_store_whole rfl 23 _ _ rfl (w.heap.size + 1) (supC fun _ => 0) rfl rfl _ 23 hres3 rfl hsz (supC_one _) ?_; intro W3 h3 hg3 hs3)
        refine bodyPost_ret (v := .tuple #[.agg (supC fun _ => 0), .int .i64 7]) (results_row_tmp (p := 2) (u := 3) rfl _ _ (w.heap.size + 1) 23 (supC fun _ => 0) _ _ rfl h3 Try.underlying23 rfl hsz) rfl ⟨by rw [HFF.out.1, HFF.out.2]; rfl, ?_⟩
        exact hB3.grown hg3 hB3.size (fun k hk => by cases hk; omega)
      | true =>
        have HFF := Lib.hid (HF.out true hok true hq)
        rw [hq] at heq
        clear hok HF HV hq
        go_wp2_with (refine wpList_load_row rfl 23 _ rfl (w.heap.size + 2) rfl 23 _ _ _ i1 Try.underlying23 rfl hsz2 ?_)
        refine (hp _).mono ?_
        rintro e w2 ⟨A2, c2, rfl, ho2, hb2⟩
        have hs2 := heap_keep i1 hb2
        have hres2 := heap_keep hres hb2
        have hB2 := hB1.trans (hb2.mono hw1)
        have hin : Boxed w2 w.heap.size 24 (.slice A 244 c) := heap_keep i2 hb2
        have hin2 := hin.cell
        have hr2 := HRD.out.below hB2
        rw [bv_len, HSL.out] at ho2
        rw [bv_len, HSL.out]
        have hr3 := Reads.of_own ho2
        clear hp ho2 hb2 i1 i2 hres
        go_wp2_with fail
        refine (heq _ _ _ _ _ hr3 hr2).mono ?_
        rintro e w3 ⟨rfl, hb3⟩
        have hs3 := heap_keep hs2 hb3
        have hres3 := heap_keep hres2 hb3
        have hB3 := below_then hB2 hb3
        clear heq hres2 hb3 hr3 hr2 hin hin2 hs2
        go_wp2_with (first | (refine wpList_load_row rfl 23 _ rfl (w.heap.size + 2) rfl 23 _ _ _ hs3 Try.underlying23 rfl hsz2 ?_) | (refine wpList_store_whole rfl 23 _ _ rfl (w.heap.size + 1) C rfl rfl _ 23 hres3 HCS.out hsz2 hone ?_; intro W3 h3 hg3 hs3))
        refine bodyPost_ret (v := .tuple #[.agg C, .int .i64 0]) (results_row_tmp (p := 2) (u := 3) rfl _ _ (w.heap.size + 1) 23 C _ _ rfl h3 Try.underlying23 rfl hsz2) rfl ⟨by rw [HFF.out.1, HFF.out.2, ← HC.out]; rfl, ?_⟩
        exact hB3.grown hg3 hB3.size (fun k hk => by cases hk; omega)
  · have hno : readS l = (fun _ => 0) ∧ readE l = 7 := by
      have : readOK l = false := by unfold readOK; rw [decide_eq_false hl]; rfl
      unfold readS readE
      rw [this]
      exact ⟨rfl, rfl⟩
    rw [hno.1, hno.2]
    have d1 : ((l.length : Int) != 244) = true := by simp; omega
    clear hno hl
    have hr0 : (((w.alloc (.cells #[.slice A l.length c] 24)).alloc (.cells (supC fun _ => 0) 23)).alloc (.cells (supC fun _ => 0) 23)).heap[w.heap.size + 1]? = some (.cells (supC fun _ => 0) 23) := by
      refine heap_alloc' ?_ _
      have := heap_alloc_new (w.alloc (.cells #[.slice A l.length c] 24)) (.cells (supC fun _ => 0) 23)
      rw [World.size_alloc] at this
      exact this
    have hr1 : (((w.alloc (.cells #[.slice A l.length c] 24)).alloc (.cells (supC fun _ => 0) 23)).alloc (.cells (supC fun _ => 0) 23)).heap[w.heap.size + 2]? = some (.cells (supC fun _ => 0) 23) := by
      have := heap_alloc_new ((w.alloc (.cells #[.slice A l.length c] 24)).alloc (.cells (supC fun _ => 0) 23)) (.cells (supC fun _ => 0) 23)
      rw [World.size_alloc, World.size_alloc] at this
      exact this
    have hB : Below w.heap.size w (((w.alloc (.cells #[.slice A l.length c] 24)).alloc (.cells (supC fun _ => 0) 23)).alloc (.cells (supC fun _ => 0) 23)) := (below_alloc2 w _ _).alloc (by simp; omega) _
    go_enter Try.func52, Try.ntmps52
    go_wp2_with (first | (refine wpList_load_row rfl 23 _ rfl (w.heap.size + 2) rfl 23 _ _ _ hr1 Try.underlying23 rfl hsz ?_) | (refine wpList_store_whole rfl 23 _ _ rfl (w.heap.size + 1) (supC fun _ => 0) rfl rfl _ 23 hr0 rfl hsz (supC_one _) ?_; intro W3 h3 hg3 hs3))
    refine bodyPost_ret (v := .tuple #[.agg (supC fun _ => 0), .int .i64 7]) (results_row_tmp (p := 2) (u := 3) rfl _ _ (w.heap.size + 1) 23 (supC fun _ => 0) _ _ rfl h3 Try.underlying23 rfl hsz) rfl ⟨rfl, ?_⟩
    exact hB.grown hg3 hB.size (fun k hk => by cases hk; omega)
end Go.Proofs.Ytahomneljdjjjaa
