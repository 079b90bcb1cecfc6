/-
  Chapter 44: the squeezer's run, walked.
-/
import Derived.Test.YtcnalndhlonblaaSq4
namespace Go.Proofs.Ytcnalndhlonblaa
open Go.RowKit
attribute [local go_sem ↓] Go.wp_at_zero Go.wp_at_succ

theorem grownBy_of_below {w w' : World} (hb : Below w.heap.size w w') : w.grownBy w' none := ⟨hb.os, hb.tape, hb.output, hb.size, fun i hi _ => hb.block i hi⟩
theorem Chg.below {B g : Nat} {w w' w'' : World} (h : Chg B g w w') (hB : B ≤ w'.heap.size) (hb : Below w'.heap.size w' w'') : Chg B g w w'' :=
  h.grown hB (grownBy_of_below hb) (fun k hk => by cases hk) (fun j o hj => by cases hj)
theorem SqI.below {w w' : World} {B g : Nat} {A1 : Option Addr} {m1 c1 : Nat} {out : List UInt8} {A2 : Option Addr} {m2 c2 : Nat} {wait : List UInt8} (h : SqI w B g A1 m1 c1 out A2 m2 c2 wait) (hb : Below w.heap.size w w') : SqI w' B g A1 m1 c1 out A2 m2 c2 wait :=
  ⟨(hb.block g (heap_lt h.box)).trans h.box, own_keep h.own hb, h.tl.keep hb, h.ne, Nat.le_trans h.bs hb.size⟩
set_option maxRecDepth 100000 in
set_option maxHeartbeats 2000000 in
theorem sqrun_any {w : World} {B g : Nat} {A1 : Option Addr} {m1 c1 : Nat} {out : List UInt8} {A2 : Option Addr} {m2 c2 : Nat} {wait : List UInt8} (h : SqI w B g A1 m1 c1 out A2 m2 c2 wait) (c : UInt8) (n : Nat) (hK : m1 + 2 * m2 + 2 * n ≤ 1000000000) :
    Calls Try.prog 70 #[.pointer (some ⟨g, 0, none⟩), .int .u8 (c.toNat : Int), .int .i64 (n : Int)] w fun e w' => e = .returned (.tuple #[]) ∧ ∃ A3 m3 c3 A4 m4 c4, SqI w' B g A3 m3 c3 (runT c n (out, wait)).1 A4 m4 c4 (runT c n (out, wait)).2 ∧ m3 + 2 * m4 ≤ m1 + 2 * m2 + 2 * n ∧ Chg B g w w' := by
  obtain ⟨i0, hi, hz0, hz1, hz2⟩ := info_parts Try.infoU44
  have HI := Lib.hid h
  clear h
  go_enter Try.func70, Try.ntmps70
  go_wp2_with fail
  go_loopw [2, 6] (fun s2 _ wr => ∃ (j : Nat) (A3 : Option Addr) (m3 c3 : Nat) (o : List UInt8) (A4 : Option Addr) (m4 c4 : Nat) (wt : List UInt8), s2 = .int .i64 (j : Int) ∧ SqI wr B g A3 m3 c3 o A4 m4 c4 wt ∧ runT c j (o, wt) = runT c n (out, wait) ∧ m3 + 2 * m4 + 2 * j ≤ m1 + 2 * m2 + 2 * n ∧ Chg B g w wr) (fun s2 _ _ => (intOf s2).toNat)
  case atStart => exact ⟨n, _, _, _, _, _, _, _, _, rfl, HI.out, rfl, Nat.le_refl _, Chg.refl _ _ _⟩
  case round =>
    obtain ⟨j, A3, m3, c3, o, A4, m4, c4, wt, rfl, hS, heq, hle, hch⟩ := hrel
    have HS := Lib.hid hS
    have hbs := hS.bs
    have HEQ := Lib.hid heq
    have HCH := Lib.hid hch
    clear heq hch
    by_cases hj : 3 ≤ j
    · obtain ⟨k, hk, hk1, hk130, hkj, hkmin⟩ : ∃ k : Nat, min (j : Int) 130 = (k : Int) ∧ 3 ≤ k ∧ k ≤ 130 ∧ k ≤ j ∧ k = min j 130 := by
        refine ⟨min j 130, ?_, by omega, by omega, by omega, rfl⟩
        omega
      have HKM := Lib.hid hkmin
      have hji : (3 : Int) ≤ (j : Int) := by omega
      have k0 : (3 : Int) ≤ (k : Int) := by omega
      have k1 : (k : Int) ≤ 130 := by omega
      have k2 : (k : Int) ≤ (j : Int) := by omega
      clear hkmin hS
      go_wp2_with fail
      refine (flush_any HS.out (by omega)).mono ?_
      rintro e w5 ⟨rfl, A5, m5, c5, A6, c6, hS5, hm5, hC5⟩
      have HS5 := Lib.hid hS5
      have hbs5 := hS5.bs
      have q0 : w5.cell? ⟨g, 0, none⟩ = some (.slice A5 m5 c5) := heap_cell hS5.box 0 rfl
      have hSa := hS5.alloc (.cells #[.int .u8 ((k : Int) + 125), .int .u8 (c.toNat : Int)] 5)
      have hrA := Reads.new w5 [Value.int .u8 ((k : Int) + 125), .int .u8 (c.toNat : Int)] 5 (0, 0)
      have hch5 := HCH.out.trans hC5
      have HCH5 := Lib.hid hch5
      clear hS5 hC5 hch5
      go_wp2_with (at_builtin; refine wpList_append_to _ rfl (.tmp 17) (.tmp 22) _ rfl B 5 i0 _ 1 Try.underlying43 hi hz0 hz1 hz2 rfl _ m5 (bv (o ++ lone wt)) rfl hSa.own _ _ 2 2 [Value.int .u8 ((k : Int) + 125), .int .u8 (c.toNat : Int)] rfl rfl hrA (by simp [Value.oneCell']) (by simp only [maxLen]; omega) (by omega) hSa.bs ?_; intro A7 c7 w7 hown7 hg7 hb7 hl7; rw [show bv (o ++ lone wt) ++ [Value.int .u8 ((k : Int) + 125), .int .u8 (c.toNat : Int)] = bv (o ++ lone wt ++ [UInt8.ofNat (k + 125), c]) from by rw [bv_append]; simp [bv]; omega] at hown7; obtain ⟨hbx7, hS7, hC7⟩ := hSa.out_to hown7 hg7 hl7; have p0 : w7.cell? ⟨g, 0, none⟩ = some (.slice A5 m5 c5) := heap_cell hbx7 0 rfl; have f0 := heap_free hbx7 0; have HS7 := Lib.hid hS7; have HC7 := Lib.hid hC7; clear hbx7 hown7 hg7 hb7 hl7 hS7 hC7)
      go_roundw
      case rel =>
        refine ⟨j - k, _, _, _, _, _, _, _, _, by go_num, HS7.out, ?_, by omega, (HCH5.out.alloc hbs5 _).trans HC7.out⟩
        rw [← HEQ.out, runT_long hj, ← HKM.out]
      case measure => simp [intOf]; omega
    · have HR := Lib.hid (runT_short (c := c) (s := (o, wt)) hj)
      have hj2 : ¬ (3 : Int) ≤ (j : Int) := by omega
      have hb200 : j ≤ 200 := by omega
      have hl2 := hS.l2
      have HL2 := Lib.hid hl2
      have hSd := hS.drew
      have HSd := Lib.hid hSd
      have p1 : wr.drew.cell? ⟨g, 1, none⟩ = some (.slice A4 m4 c4) := heap_cell hSd.box 1 rfl
      have p1a : (wr.alloc (.cells #[.int .u8 (c.toNat : Int)] 5)).cell? ⟨g, 1, none⟩ = some (.slice A4 m4 c4) := heap_cell (hSd.alloc _).box 1 rfl
      have hbx : wr.drew.heap.size = wr.heap.size := rfl
      have HRP := Lib.hid (fun (B1 : Nat) (hB1 : B1 ≤ wr.heap.size + 1) (h : Reads (wr.drew.alloc (.cells #[.int .u8 (c.toNat : Int)] 5)) B1 (some ⟨wr.heap.size, 0, none⟩) (bv [c])) => repeat_any (some ⟨wr.heap.size, 0, none⟩) 1 c j hb200 (wr.drew.alloc (.cells #[.int .u8 (c.toNat : Int)] 5)) B1 h (by simp; omega))
      have HN := Lib.hid (Reads.new wr.drew [Value.int .u8 (c.toNat : Int)] 5 (0, 0))
      clear hS hl2 hSd
      go_wp2_with fail
      go_region_law (first
        | (refine step_append_tail _ rfl (.tmp 33) (.tmp 37) _ rfl B 5 i0 _ 1 Try.underlying43 hi hz0 hz1 hz2 rfl _ m4 (bv wt) rfl HS5.out.tl _ _ j _ (bv (List.replicate j c)) rfl (by rw [bv_len, List.length_replicate]) HR5.out (bv_one _) (by simp only [maxLen]; omega) (by omega) HS5.out.bs ?_; intro A9 c9 w9 hown9 hg9 hb9 hl9; rw [← bv_append] at hown9; obtain ⟨hbx9, hS9, hC9⟩ := HS5.out.wait_to hown9 hg9 hl9; have hx1 : w9.cell? ⟨g, 1, none⟩ = some (.slice A4 m4 c4) := heap_cell hbx9 1 rfl; have hxf := heap_free hbx9 1; have HS9 := Lib.hid hS9; have HC9 := Lib.hid hC9; clear hbx9 hown9 hg9 hb9 hl9 hS9 hC9)
        | (rw [if_pos (by simp [Region.wanted])]; go_simp; go_at_call 86; refine (HRP.out _ (Nat.le_refl _) HN.out).mono ?_; rintro e w5 ⟨A5, c5, rfl, hR5, hb5⟩; have HR5 := Lib.hid hR5; have hS5 := (HSd.out.alloc _).below hb5; have y1 : w5.cell? ⟨g, 1, none⟩ = some (.slice A4 m4 c4) := heap_cell hS5.box 1 rfl; have HC5 := Lib.hid ((HCH.out.drew.alloc hbs _).below (by simp; omega) hb5); have HS5 := Lib.hid hS5; clear hR5 hb5 hS5))
      all_goals
        refine end0' (by rfl) rfl ⟨rfl, A3, m3, c3, A9, m4 + j, c9, ?_, by omega, HC5.out.trans HC9.out⟩
        rw [← HEQ.out, HR.out]
        exact HS9.out
end Go.Proofs.Ytcnalndhlonblaa
