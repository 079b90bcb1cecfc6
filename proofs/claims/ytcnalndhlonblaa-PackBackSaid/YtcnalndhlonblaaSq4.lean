/-
  Chapter 44: flush, walked.
-/
import Derived.Test.YtcnalndhlonblaaSq3
import Derived.Deep.RegionLaw
namespace Go.Proofs.Ytcnalndhlonblaa
open Go.RowKit
attribute [local go_sem ↓] Go.wp_at_zero Go.wp_at_succ

def lenC : Option Value → Nat
  | some (.slice _ n _) => n
  | _ => 0
theorem end0' {P : Program} {fn : Func} {R : Ending → World → Prop} {a : Act} {w : World} (hr : fn.results = #[]) (hd : a.defers = []) (hR : R (.returned (.tuple #[])) w) : bodyPost P fn R .normal a w :=
  bodyPost_end (by simp [results, hr]) hd hR
set_option maxRecDepth 100000 in
set_option maxHeartbeats 2000000 in
theorem flush_any {w : World} {B g : Nat} {A1 : Option Addr} {m1 c1 : Nat} {out : List UInt8} {A2 : Option Addr} {m2 c2 : Nat} {wait : List UInt8} (h : SqI w B g A1 m1 c1 out A2 m2 c2 wait) (hK : m1 + 2 * m2 ≤ 1000000000) :
    Calls Try.prog 71 #[.pointer (some ⟨g, 0, none⟩)] w fun e w' => e = .returned (.tuple #[]) ∧ ∃ A3 m3 c3 A4 c4, SqI w' B g A3 m3 c3 (out ++ lone wait) A4 0 c4 [] ∧ m3 ≤ m1 + 2 * m2 ∧ Chg B g w w' := by
  obtain ⟨i0, hi, hz0, hz1, hz2⟩ := info_parts Try.infoU44
  have HI := Lib.hid h
  clear h
  go_enter Try.func71, Try.ntmps71
  go_wp2_with fail
  go_loopw [2] (fun _ wr => ∃ (A3 : Option Addr) (m3 c3 : Nat) (o : List UInt8) (A4 : Option Addr) (m4 c4 : Nat) (wt : List UInt8), SqI wr B g A3 m3 c3 o A4 m4 c4 wt ∧ o ++ lone wt = out ++ lone wait ∧ m3 + 2 * m4 ≤ m1 + 2 * m2 ∧ Chg B g w wr) (fun _ W => lenC (W.cell? ⟨g, 1, none⟩))
  case atStart => exact ⟨_, _, _, _, _, _, _, _, HI.out, rfl, Nat.le_refl _, Chg.refl _ _ _⟩
  case round =>
    obtain ⟨A3, m3, c3, o, A4, m4, c4, wt, hS, heq, hle, hch⟩ := hrel
    have HS := Lib.hid hS
    have hbs := hS.bs
    have HEQ := Lib.hid heq
    have HCH := Lib.hid hch
    have q0 : wr.cell? ⟨g, 0, none⟩ = some (.slice A3 m3 c3) := heap_cell hS.box 0 rfl
    have q1 : wr.cell? ⟨g, 1, none⟩ = some (.slice A4 m4 c4) := heap_cell hS.box 1 rfl
    have hl1 := hS.l1
    have hl2 := hS.l2
    have HL1 := Lib.hid hl1
    have HL2 := Lib.hid hl2
    clear heq hch
    by_cases hpos : 0 < m4
    · obtain ⟨n, hn, hn1, hn128, hnm⟩ : ∃ n : Nat, min (m4 : Int) 128 = (n : Int) ∧ 1 ≤ n ∧ n ≤ 128 ∧ n ≤ m4 ∧ n = min m4 128 := by
        refine ⟨min m4 128, ?_, by omega, by omega, by omega, rfl⟩
        omega
      obtain ⟨hnm, hnmin⟩ := hnm
      have HNM := Lib.hid hnmin
      have hpi : (0 : Int) < (m4 : Int) := by omega
      have hn0 : (1 : Int) ≤ (n : Int) := by omega
      have hn2 : (n : Int) ≤ 128 := by omega
      clear hnmin hl1 hl2
      have hSa := hS.alloc (.cells #[.int .u8 ((n : Int) - 1)] 5)
      have hrA := Reads.new wr [Value.int .u8 ((n : Int) - 1)] 5 (0, 0)
      clear hS
      go_wp2_with (at_builtin; refine wpList_append_to _ rfl (.tmp 19) (.tmp 23) _ rfl B 5 i0 _ 1 Try.underlying43 hi hz0 hz1 hz2 rfl _ m3 (bv o) rfl hSa.own _ _ 1 1 [Value.int .u8 ((n : Int) - 1)] rfl rfl hrA (by simp [Value.oneCell']) (by simp only [maxLen]; omega) (by omega) hSa.bs ?_; intro A7 c7 w7 hown7 hg7 hb7 hl7; rw [show bv o ++ [Value.int .u8 ((n : Int) - 1)] = bv (o ++ [UInt8.ofNat (n - 1)]) from by rw [bv_append]; simp [bv]; omega] at hown7; obtain ⟨hbx7, hS7, hC7⟩ := hSa.out_to hown7 hg7 hl7; have p0 : w7.cell? ⟨g, 0, none⟩ = some (.slice A3 m3 c3) := heap_cell hbx7 0 rfl; have f0 := heap_free hbx7 0; have HS7 := Lib.hid hS7; have HC7 := Lib.hid hC7; clear hbx7 hown7 hg7 hb7 hl7 hS7 hC7)
      have hch7 := (HCH.out.alloc hbs _).trans HC7.out
      generalize w7.setCell ⟨g, 0, none⟩ (.slice A7 (m3 + 1) c7) = w8 at *
      have HQ1 := Lib.hid q1
      clear p0 f0 hSa hrA q0 q1 HS
      have hSd := HS7.out.drew
      obtain ⟨g4, o4, rfl⟩ : ∃ g4 o4, A4 = some ⟨g4, o4, none⟩ := by
        rcases hSd.tl.2 with ⟨_, h0⟩ | ⟨g4, o4, cap, cur, hv, _⟩
        · omega
        · injection hv with h1
          exact ⟨g4, o4, h1⟩
      have p0 : w8.drew.cell? ⟨g, 0, none⟩ = some (.slice A7 (m3 + 1) c7) := heap_cell hSd.box 0 rfl
      have p1 : w8.drew.cell? ⟨g, 1, none⟩ = some (.slice (some ⟨g4, o4, none⟩) m4 c4) := heap_cell hSd.box 1 rfl
      have hcap := hSd.tl.cap
      have hrT := (hSd.tl.reads).take n
      rw [bv_take] at hrT
      have hTl : (wt.take n).length = n := by rw [List.length_take]; have := HL2.out; omega
      have hnc : (n : Int) ≤ (c4 : Int) := by omega
      have HS8 := Lib.hid hSd
      have HCH8 := Lib.hid hch7.drew
      clear hch7 HC7 HS7
      go_region_law ((refine step_append_loc _ rfl (.tmp 31) (.tmp 37) _ rfl B 5 i0 _ 1 Try.underlying43 hi hz0 hz1 hz2 rfl _ (m3 + 1) (bv (o ++ [UInt8.ofNat (n - 1)])) rfl HS8.out.own _ _ n _ (bv (wt.take n)) rfl (by rw [bv_len, hTl]) hrT (bv_one _) (by simp only [maxLen]; omega) (by omega) HS8.out.bs ?_; intro A9 c9 w9 hown9 hg9 hb9 hl9; rw [← bv_append] at hown9; obtain ⟨hbx9, hS9, hC9⟩ := HS8.out.out_to hown9 hg9 hl9; have hx0 : w9.cell? ⟨g, 0, none⟩ = some (.slice A7 (m3 + 1) c7) := heap_cell hbx9 0 rfl; have hx1 : w9.cell? ⟨g, 1, none⟩ = some (.slice (some ⟨g4, o4, none⟩) m4 c4) := heap_cell hbx9 1 rfl; have hx2 : (w9.setCell ⟨g, 0, none⟩ (.slice A9 (m3 + 1 + n) c9)).cell? ⟨g, 1, none⟩ = some (.slice (some ⟨g4, o4, none⟩) m4 c4) := heap_cell hS9.box 1 rfl; have hxf := heap_free hbx9 0; have hxf1 := heap_free hbx9 1; have HS9 := Lib.hid hS9; have HC9 := Lib.hid hC9; clear hbx9 hown9 hg9 hb9 hl9 hS9 hC9))
      all_goals
        have hS9 := HS9.out
        have hTd := hS9.tl.drop n hnm
        have hch9 := HCH8.out.trans HC9.out
        generalize w9.setCell ⟨g, 0, none⟩ (.slice A9 (m3 + 1 + n) c9) = w10 at *
        have y1 : w10.cell? ⟨g, 1, none⟩ = some (.slice (some ⟨g4, o4, none⟩) m4 c4) := heap_cell hS9.box 1 rfl
        have yf := heap_free hS9.box 1
        rw [bv_drop] at hTd
        have HS10 := Lib.hid hS9
        have HCH10 := Lib.hid hch9
        have HTD := Lib.hid hTd
        clear hx0 hx1 hx2 hxf hxf1 hS9 hch9 hTd p0 p1 HC9 HS9 HS8 HCH8 hSd hrT
        go_wp2
        have hif : (if c4 = n then some (⟨g4, o4, none⟩ : Addr) else some ⟨g4, o4 + n, none⟩) = some (if c4 = n then ⟨g4, o4, none⟩ else ⟨g4, o4 + n, none⟩) := by split <;> rfl
        rw [hif]
        obtain ⟨hS11, hC11⟩ := HS10.out.wait_cut HTD.out (by simp only [Value.ownBlock]; split <;> rfl)
        have hHB := HS10.out.box
        refine ⟨⟨A9, m3 + 1 + n, c9, _, _, m4 - n, c4 - n, List.drop n wt, hS11, ?_, by omega, HCH10.out.trans hC11⟩, ?_⟩
        · rw [← HEQ.out, lone_step (w := wt) (fun h => by have := HL2.out; rw [h] at this; simp at this; omega), ← HL2.out, ← HNM.out]
          have ht : List.take 128 wt = List.take n wt ∧ List.drop 128 wt = List.drop n wt := by
            by_cases h128 : 128 ≤ m4
            · rw [show n = 128 by have := HNM.out; omega]
              exact ⟨rfl, rfl⟩
            · have h4 := HNM.out
              have h5 := HL2.out
              rw [List.take_of_length_le (by omega), List.take_of_length_le (by omega), List.drop_eq_nil_of_le (by omega), List.drop_eq_nil_of_le (by omega)]
              exact ⟨rfl, rfl⟩
          rw [ht.1, ht.2]
          simp
        · have hq : wr.cell? ⟨g, 1, none⟩ = some (.slice (some ⟨g4, o4, none⟩) m4 c4) := HQ1.out
          rw [heap_cell hS11.box 1 rfl, hq]
          show m4 - n < m4
          omega
    · obtain rfl : m4 = 0 := by omega
      have hw : wt = [] := List.eq_nil_of_length_eq_zero (by omega)
      subst hw
      clear hS hl1 hl2
      go_wp2
      refine end0' (by rfl) rfl ⟨rfl, A3, m3, c3, A4, c4, ?_, by omega, HCH.out⟩
      rw [← HEQ.out, lone_nil, List.append_nil]
      exact HS.out
end Go.Proofs.Ytcnalndhlonblaa
