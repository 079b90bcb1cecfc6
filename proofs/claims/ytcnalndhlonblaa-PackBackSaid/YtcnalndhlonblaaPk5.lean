/-
  Chapter 45: the reader's fail, number and bytes, walked.
-/
import Derived.Test.YtcnalndhlonblaaPkP2
import Derived.Test.YtcnalndhlonblaaCode3
import Derived.Test.YtcnalndhlonblaaSq4
import Derived.Test.YtcnalndhlonblaaOpen
namespace Go.Proofs.Ytcnalndhlonblaa
open Go.RowKit
attribute [local go_sem ↓] Go.wp_at_zero Go.wp_at_succ

/-- a reader: what it still has to take, and its error -/
structure RdI (w : World) (B r : Nat) (A : Option Addr) (n c : Nat) (rest : List UInt8) (e : Int) : Prop where
  box : w.heap[r]? = some (.cells #[.slice A n c, .int .i64 e] 95)
  rd : Reads w B A (bv rest)
  ln : n = rest.length
  cp : n ≤ c
  ge : B ≤ r
section
variable {w w' : World} {B r : Nat} {A : Option Addr} {n c : Nat} {rest : List UInt8} {e : Int}
theorem RdI.below (h : RdI w B r A n c rest e) (hb : Below w.heap.size w w') : RdI w' B r A n c rest e :=
  ⟨heap_keep h.box hb, h.rd.keep fun p hp => hb.cell (p := p) (by have := heap_lt h.box; have := h.ge; omega), h.ln, h.cp, h.ge⟩
theorem RdI.kept (h : RdI w B r A n c rest e) {row : Option Nat} (hg : w.grownBy w' row) (hr : row ≠ some r) (h2 : ∀ g, row = some g → B ≤ g) : RdI w' B r A n c rest e :=
  ⟨(hg.block r (heap_lt h.box) (fun e => hr e.symm)).trans h.box, h.rd.grown hg (by have := heap_lt h.box; have := h.ge; omega) h2, h.ln, h.cp, h.ge⟩
theorem RdI.lt (h : RdI w B r A n c rest e) : r < w.heap.size := heap_lt h.box
/-- the error is set -/
theorem RdI.err (h : RdI w B r A n c rest e) (x : Int) : RdI (w.setCell ⟨r, 1, none⟩ (.int .i64 x)) B r A n c rest x :=
  ⟨heap_setCell_same w r 1 _ _ _ h.box, h.rd.setCell h.ge _, h.ln, h.cp, h.ge⟩
/-- the bytes are set -/
theorem RdI.put (h : RdI w B r A n c rest e) {A2 : Option Addr} {n2 c2 : Nat} {rest2 : List UInt8} (hr : Reads w B A2 (bv rest2)) (hl : n2 = rest2.length) (hc : n2 ≤ c2) : RdI (w.setCell ⟨r, 0, none⟩ (.slice A2 n2 c2)) B r A2 n2 c2 rest2 e :=
  ⟨heap_setCell_same w r 0 _ _ _ h.box, hr.setCell h.ge _, hl, hc, h.ge⟩
end
def erS (e x : Int) : Int := if e = 0 then x else e
theorem fail_any {w : World} {B r : Nat} {A : Option Addr} {n c : Nat} {rest : List UInt8} {e : Int} (h : RdI w B r A n c rest e) (x : Int) :
    Calls Try.prog 80 #[.pointer (some ⟨r, 0, none⟩), .int .i64 x] w fun en w' => en = .returned (.tuple #[]) ∧ RdI w' B r A n c rest (erS e x) ∧ w.grownBy w' (some r) := by
  have q1 : w.cell? ⟨r, 1, none⟩ = some (.int .i64 e) := heap_cell h.box 1 rfl
  have f1 := heap_free h.box 1
  have HH := Lib.hid h
  clear h
  go_enter Try.func80, Try.ntmps80
  by_cases h0 : e = 0
  · subst h0
    go_wp2
    refine end0' rfl rfl ?_
    exact ⟨rfl, by simpa [erS] using HH.out.err x, grown_at w r 1 _⟩
  · have d0 : (e == 0) = false := by rw [beq_eq_false_iff_ne]; exact h0
    have HE := Lib.hid (show erS e x = e by unfold erS; rw [if_neg h0])
    clear h0
    go_wp2
    refine end0' rfl rfl ?_
    exact ⟨rfl, by rw [HE.out]; exact HH.out, World.grownBy.refl w _⟩
def numV (k : Nat) (l : List UInt8) : Nat := if l.length < k then 0 else le (l.take k)
def numR (k : Nat) (l : List UInt8) : List UInt8 := if l.length < k then [] else l.drop k
def numT (k : Nat) (l : List UInt8) : List UInt8 := if l.length < k then [] else l.take k
def numE (k : Nat) (l : List UInt8) (e : Int) : Int := if l.length < k then erS e 3 else e
theorem getV_num (l : List UInt8) (k : Nat) (hk : k = 2 ∨ k = 4) (h : k ≤ l.length) : getV l 0 k = (((le (l.take k) : Nat) : Int), 0) := by
  unfold getV
  have h1 := le_lt (l.take k)
  have h2 : (l.take k).length ≤ 4 := by rw [List.length_take]; omega
  have h3 : 256 ^ (l.take k).length ≤ 256 ^ 4 := Nat.pow_le_pow_right (by decide) h2
  have e : getN l 0 k = le (l.take k) := by unfold getN; simp
  rw [if_pos (thereV_ok (by unfold knownB; simp; omega) (by omega) (by omega)), e, if_pos (by omega)]
theorem Reads.drop' {w : World} {B : Nat} {ad : Addr} {l : List UInt8} (h : Reads w B (some ad) (bv l)) {k c : Nat} (hc : l.length ≤ c) : Reads w B (if c = k then some ad else some (ad.add k)) (bv (l.drop k)) := by
  have := h.drop (k := k) (cap := c) (by rw [bv_len]; exact hc)
  rw [bv_drop] at this
  exact this
set_option maxHeartbeats 1000000 in
theorem number_any {w : World} {B r : Nat} {A : Option Addr} {n c : Nat} {rest : List UInt8} {e : Int} (h : RdI w B r A n c rest e) (k : Nat) (hk : k = 2 ∨ k = 4) (hm : n ≤ 1000000) :
    Calls Try.prog 81 #[.pointer (some ⟨r, 0, none⟩), .int .i64 k] w fun en w' => ∃ A2 n2 c2, en = .returned (.int .i64 (numV k rest : Nat)) ∧ RdI w' B r A2 n2 c2 (numR k rest) (numE k rest e) ∧ n2 ≤ n ∧ w.grownBy w' (some r) := by
  have q0 : w.cell? ⟨r, 0, none⟩ = some (.slice A n c) := heap_cell h.box 0 rfl
  have HH := Lib.hid h
  have HL := Lib.hid h.ln
  by_cases hlt : n < k
  · have H1 := Lib.hid (show numV k rest = 0 ∧ numR k rest = [] ∧ numE k rest e = erS e 3 by
      unfold numV numR numE
      rw [← h.ln, if_pos hlt, if_pos hlt, if_pos hlt]; exact ⟨rfl, rfl, rfl⟩)
    clear h
    go_enter Try.func81, Try.ntmps81
    have i1 : (n : Int) < (k : Int) := by omega
    clear hk
    go_wp2_with fail
    refine (fail_any HH.out 3).mono ?_
    rintro en w1 ⟨rfl, h1, hg1⟩
    have q1 : w1.cell? ⟨r, 0, none⟩ = some (.slice A n c) := heap_cell h1.box 0 rfl
    have f1 := heap_free h1.box 0
    have h2 := h1.put (A2 := none) (n2 := 0) (c2 := 0) (rest2 := []) (Reads.nil_ _ _ _) rfl (Nat.le_refl _)
    have HG := Lib.hid (hg1.trans (grown_at w1 r 0 (.slice none 0 0)))
    have H2 := Lib.hid h2
    clear h1 h2 hg1
    go_wp2
    go_ret
    exact ⟨none, 0, 0, by rw [H1.out.1]; rfl, by rw [H1.out.2.1, H1.out.2.2]; exact H2.out, by omega, HG.out⟩
  · have hle : k ≤ rest.length := by rw [← h.ln]; omega
    have H1 := Lib.hid (show numV k rest = le (rest.take k) ∧ numR k rest = rest.drop k ∧ numE k rest e = e by
      unfold numV numR numE
      rw [← h.ln, if_neg hlt, if_neg hlt, if_neg hlt]; exact ⟨rfl, rfl, rfl⟩)
    obtain ⟨ad, rfl, -⟩ := h.rd.at_ (k := 0) (by rw [bv_len]; omega)
    have hg := get_any (some ad) c rest 0 k w B (by rw [← h.ln]; simp only [reachBytes]; omega) h.rd
    rw [getV_num rest k hk hle, ← h.ln] at hg
    have HG := Lib.hid hg
    have HD := Lib.hid (h.rd.drop' (k := k) (c := c) (by rw [← h.ln]; exact h.cp))
    have HX := Lib.hid (show le (rest.take k) = numV k rest from H1.out.1.symm)
    have hcp := h.cp
    have hb := h.ge
    clear hg hle h
    generalize le (rest.take k) = x at *
    go_enter Try.func81, Try.ntmps81
    have i1 : (k : Int) ≤ (n : Int) := by omega
    have i2 : k ≤ n := by omega
    go_wp2_with fail
    refine HG.out.mono ?_
    rintro en w1 ⟨rfl, rfl⟩
    go_wp2_with fail
    refine (fail_any HH.out 0).mono ?_
    rintro en w1 ⟨rfl, h1, hg1⟩
    have he : erS e 0 = e := by unfold erS; split <;> simp_all
    rw [he] at h1
    have q1 : w1.cell? ⟨r, 0, none⟩ = some (.slice (some ad) n c) := heap_cell h1.box 0 rfl
    have f1 := heap_free h1.box 0
    have hR1 := HD.out.grown hg1 (by have := HH.out.lt; omega) (fun g hg => by injection hg with hg; omega)
    have hn2 : n - k = (rest.drop k).length := by rw [List.length_drop, ← HL.out]
    have H2 := Lib.hid (h1.put hR1 hn2 (show n - k ≤ c - k by omega))
    have HG := Lib.hid (fun v => hg1.trans (grown_at w1 r 0 v))
    clear he hR1 hn2 h1 hg1
    by_cases hck : c = k
    · rw [if_pos hck, show c - k = 0 by omega] at H2
      go_wp2
      go_ret
      refine ⟨_, _, _, by rw [HX.out]; rfl, by rw [H1.out.2.1, H1.out.2.2]; exact H2.out, by omega, HG.out _⟩
    · rw [if_neg hck] at H2
      go_wp2
      go_ret
      refine ⟨_, _, _, by rw [HX.out]; rfl, by rw [H1.out.2.1, H1.out.2.2]; exact H2.out, by omega, HG.out _⟩
set_option maxHeartbeats 1000000 in
theorem bytesR_any {w : World} {B r : Nat} {A : Option Addr} {n c : Nat} {rest : List UInt8} {e : Int} (h : RdI w B r A n c rest e) (k : Nat) (hm : n ≤ 1000000) :
    Calls Try.prog 79 #[.pointer (some ⟨r, 0, none⟩), .int .i64 k] w fun en w' => ∃ A2 n2 c2 A3 c3, en = .returned (.slice A3 (numT k rest).length c3) ∧ (numT k rest).length ≤ c3 ∧ Reads w' B A3 (bv (numT k rest)) ∧ RdI w' B r A2 n2 c2 (numR k rest) (numE k rest e) ∧ n2 ≤ n ∧ w.grownBy w' (some r) := by
  have q0 : w.cell? ⟨r, 0, none⟩ = some (.slice A n c) := heap_cell h.box 0 rfl
  have HH := Lib.hid h
  have HL := Lib.hid h.ln
  by_cases hlt : n < k
  · have H1 := Lib.hid (show numT k rest = [] ∧ numR k rest = [] ∧ numE k rest e = erS e 3 by
      unfold numT numR numE
      rw [← h.ln, if_pos hlt, if_pos hlt, if_pos hlt]; exact ⟨rfl, rfl, rfl⟩)
    clear h
    go_enter Try.func79, Try.ntmps79
    have i1 : (n : Int) < (k : Int) := by omega
    go_wp2_with fail
    refine (fail_any HH.out 3).mono ?_
    rintro en w1 ⟨rfl, h1, hg1⟩
    have q1 : w1.cell? ⟨r, 0, none⟩ = some (.slice A n c) := heap_cell h1.box 0 rfl
    have f1 := heap_free h1.box 0
    have h2 := h1.put (A2 := none) (n2 := 0) (c2 := 0) (rest2 := []) (Reads.nil_ _ _ _) rfl (Nat.le_refl _)
    have HG := Lib.hid (hg1.trans (grown_at w1 r 0 (.slice none 0 0)))
    have H2 := Lib.hid h2
    clear h1 h2 hg1
    go_wp2
    go_ret
    exact ⟨none, 0, 0, none, 0, by rw [H1.out.1]; rfl, by rw [H1.out.1]; exact Nat.le_refl _, by rw [H1.out.1]; exact Reads.nil_ _ _ _, by rw [H1.out.2.1, H1.out.2.2]; exact H2.out, by omega, HG.out⟩
  · have hle : k ≤ rest.length := by rw [← h.ln]; omega
    have H1 := Lib.hid (show numT k rest = rest.take k ∧ numR k rest = rest.drop k ∧ numE k rest e = e by
      unfold numT numR numE
      rw [← h.ln, if_neg hlt, if_neg hlt, if_neg hlt]; exact ⟨rfl, rfl, rfl⟩)
    have HTL := Lib.hid (show (numT k rest).length = k by rw [H1.out.1, List.length_take]; omega)
    have hcp := h.cp
    have hb := h.ge
    have HRT := Lib.hid (show Reads w B A (bv (numT k rest)) by rw [H1.out.1, ← bv_take]; exact h.rd.take k)
    have f0 := heap_free h.box 0
    rw [HTL.out]
    by_cases hn0 : n = 0
    · subst hn0
      obtain rfl : k = 0 := by omega
      have hr0 : rest = [] := List.eq_nil_of_length_eq_zero HL.out.symm
      have H2 := Lib.hid (fun X Y => HH.out.put (A2 := X) (n2 := 0) (c2 := Y) (rest2 := []) (Reads.nil_ _ _ _) rfl (Nat.zero_le _))
      have HD := Lib.hid (show rest.drop 0 = [] by rw [hr0]; rfl)
      have HN := Lib.hid (show numT 0 rest = [] by rw [H1.out.1]; rfl)
      clear h hle hr0
      go_enter Try.func79, Try.ntmps79
      go_wp2
      all_goals
        go_ret
        refine ⟨_, _, _, _, _, rfl, Nat.zero_le _, by rw [HN.out]; exact Reads.nil_ _ _ _, by rw [H1.out.2.1, H1.out.2.2, HD.out]; exact H2.out _ _, Nat.le_refl _, grown_at w r 0 _⟩
    · obtain ⟨ad, rfl, -⟩ := h.rd.at_ (k := 0) (by rw [bv_len, ← h.ln]; omega)
      have hD := h.rd.drop' (k := k) (c := c) (by rw [← h.ln]; exact h.cp)
      have hn2 : n - k = (rest.drop k).length := by rw [List.length_drop, ← HL.out]
      clear hle
      by_cases hck : c = k
      · rw [if_pos hck] at hD
        have H2 := Lib.hid (HH.out.put hD hn2 (show n - k ≤ c - k by omega))
        rw [show c - k = 0 by omega] at H2
        have i1 : (k : Int) ≤ (n : Int) := by omega
        have i2 : k ≤ n := by omega
        have i3 : (k : Int) ≤ (c : Int) := by omega
        clear h hD hn2 hn0
        go_enter Try.func79, Try.ntmps79
        go_wp2
        go_ret
        refine ⟨_, _, _, _, _, rfl, by omega, HRT.out.setCell hb _, by rw [H1.out.2.1, H1.out.2.2]; exact H2.out, by omega, grown_at w r 0 _⟩
      · rw [if_neg hck] at hD
        have H2 := Lib.hid (HH.out.put hD hn2 (show n - k ≤ c - k by omega))
        have i1 : (k : Int) ≤ (n : Int) := by omega
        have i2 : k ≤ n := by omega
        have i3 : (k : Int) ≤ (c : Int) := by omega
        clear h hD hn2 hn0
        go_enter Try.func79, Try.ntmps79
        go_wp2
        go_ret
        refine ⟨_, _, _, _, _, rfl, by omega, HRT.out.setCell hb _, by rw [H1.out.2.1, H1.out.2.2]; exact H2.out, by omega, grown_at w r 0 _⟩
end Go.Proofs.Ytcnalndhlonblaa
