/-
  Chapter 21: lists of lists of counts, lists of entries, in memory; lists that are the same.
-/
import Derived.Test.YtcnalndhlonblaaTlyP
import Derived.Test.YtcnalndhlonblaaBase5
import Derived.Test.YtcnalndhlonblaaRef1C
import Derived.BigRegion
import Derived.Deep.DeepCutAuto
import Derived.BigQuiet
import Derived.Deep.QuietTactic
namespace Go.Proofs.Ytcnalndhlonblaa
open Go.RowKit
/-- a slice of slices of ints -/
def Lists (w : World) (B : Nat) (A : Option Addr) (ls : List (List Int)) : Prop :=
  0 < ls.length → ∃ ad, A = some ad ∧ ad.block < B ∧ ∀ j l, ls[j]? = some l → ∃ Aj cj, w.cell? (ad.add j) = some (.slice Aj l.length cj) ∧ Reads w B Aj (iv l)
theorem Lists.below {w w' : World} {B : Nat} {A : Option Addr} {ls : List (List Int)} (h : Lists w B A ls) (hb : Below B w w') : Lists w' B A ls := fun hn => by
  obtain ⟨ad, e, hlt, hc⟩ := h hn
  refine ⟨ad, e, hlt, fun j l hj => ?_⟩
  obtain ⟨Aj, cj, h1, h2⟩ := hc j l hj
  exact ⟨Aj, cj, (hb.cell (by rw [block_add]; exact hlt)).trans h1, h2.below hb⟩
theorem Lists.more {w : World} {B B' : Nat} {A : Option Addr} {ls : List (List Int)} (h : Lists w B A ls) (hB : B ≤ B') : Lists w B' A ls := fun hn => by
  obtain ⟨ad, e, hlt, hc⟩ := h hn
  refine ⟨ad, e, by omega, fun j l hj => ?_⟩
  obtain ⟨Aj, cj, h1, h2⟩ := hc j l hj
  exact ⟨Aj, cj, h1, h2.more hB⟩
theorem Lists.ext {w w' : World} {A : Option Addr} {ls : List (List Int)} (h : Lists w w.heap.size A ls) (hb : Below w.heap.size w w') : Lists w' w'.heap.size A ls := (h.below hb).more hb.size
theorem Lists.drewN {w : World} {B : Nat} {A : Option Addr} {ls : List (List Int)} (h : Lists w B A ls) (k : Nat) : Lists (w.drewN k) B A ls := h
theorem Lists.nil_ (w : World) (B : Nat) (A : Option Addr) : Lists w B A [] := fun h => absurd h (by simp)
/-- a slice of entries -/
def Ents (w : World) (B : Nat) (A : Option Addr) (ls : List EntL) : Prop :=
  0 < ls.length → ∃ b o, A = some ⟨b, o, none⟩ ∧ b < B ∧ ∀ (j : Nat) x, ls[j]? = some x → w.cell? ⟨b, o + j * 3, none⟩ = some (.int .i64 x.key) ∧ w.cell? ⟨b, o + j * 3 + 1, none⟩ = some (.string ⟨x.val.toArray⟩) ∧ w.cell? ⟨b, o + j * 3 + 2, none⟩ = some (.int .i64 x.at_)
theorem Ents.below {w w' : World} {B : Nat} {A : Option Addr} {ls : List EntL} (h : Ents w B A ls) (hb : Below B w w') : Ents w' B A ls := fun hn => by
  obtain ⟨b, o, e, hlt, hc⟩ := h hn
  refine ⟨b, o, e, hlt, fun j x hj => ?_⟩
  obtain ⟨h1, h2, h3⟩ := hc j x hj
  exact ⟨(hb.cell (p := ⟨b, o + j * 3, none⟩) hlt).trans h1, (hb.cell (p := ⟨b, o + j * 3 + 1, none⟩) hlt).trans h2, (hb.cell (p := ⟨b, o + j * 3 + 2, none⟩) hlt).trans h3⟩
theorem Ents.more {w : World} {B B' : Nat} {A : Option Addr} {ls : List EntL} (h : Ents w B A ls) (hB : B ≤ B') : Ents w B' A ls := fun hn => by
  obtain ⟨b, o, e, hlt, hc⟩ := h hn
  exact ⟨b, o, e, by omega, hc⟩
theorem Ents.ext {w w' : World} {A : Option Addr} {ls : List EntL} (h : Ents w w.heap.size A ls) (hb : Below w.heap.size w w') : Ents w' w'.heap.size A ls := (h.below hb).more hb.size
theorem Ents.drewN {w : World} {B : Nat} {A : Option Addr} {ls : List EntL} (h : Ents w B A ls) (k : Nat) : Ents (w.drewN k) B A ls := h
theorem Ents.nil_ (w : World) (B : Nat) (A : Option Addr) : Ents w B A [] := fun h => absurd h (by simp)
/-- the cells of entries, in a row -/
def ev : List EntL → List Value
  | [] => []
  | x :: r => .int .i64 x.key :: .string ⟨x.val.toArray⟩ :: .int .i64 x.at_ :: ev r
theorem ev_append (a b : List EntL) : ev (a ++ b) = ev a ++ ev b := by
  induction a with
  | nil => rfl
  | cons x r ih => simp [ev, ih]
theorem ev_len (a : List EntL) : (ev a).length = a.length * 3 := by
  induction a with
  | nil => rfl
  | cons x r ih => simp [ev, ih]; omega
theorem ev_get (l : List EntL) : ∀ j x, l[j]? = some x → (ev l)[j * 3]? = some (.int .i64 x.key) ∧ (ev l)[j * 3 + 1]? = some (.string ⟨x.val.toArray⟩) ∧ (ev l)[j * 3 + 2]? = some (.int .i64 x.at_) := by
  induction l with
  | nil => intro j x h; simp at h
  | cons y r ih =>
    intro j x h
    cases j with
    | zero =>
      simp at h
      subst h
      exact ⟨rfl, rfl, rfl⟩
    | succ j =>
      simp at h
      obtain ⟨h1, h2, h3⟩ := ih j x h
      refine ⟨?_, ?_, ?_⟩
      · rw [show (j + 1) * 3 = j * 3 + 1 + 1 + 1 by omega]; simpa [ev] using h1
      · rw [show (j + 1) * 3 + 1 = j * 3 + 1 + 1 + 1 + 1 by omega]; simpa [ev] using h2
      · rw [show (j + 1) * 3 + 2 = j * 3 + 2 + 1 + 1 + 1 by omega]; simpa [ev] using h3
theorem Ents.of_own {w : World} {base : Nat} {e : TypeId} {A : Option Addr} {n c : Nat} {ls : List EntL} (hn : n = ls.length) (h : w.ownsRow base e 3 (.slice A n c) n (ev ls)) : Ents w w.heap.size A ls := fun hp => by
  rcases h.2 with ⟨hv, hz⟩ | ⟨g, cap, cur, hv, hb, hg, _⟩
  · omega
  · injection hv with h1 h2 h3
    subst h1
    have hc := h.cells (g := g) rfl
    refine ⟨g, 0, rfl, (Array.getElem?_eq_some_iff.1 hg).1, fun j p hj => ?_⟩
    obtain ⟨t0, t1, t2⟩ := ev_get ls j p hj
    have q0 := hc _ _ t0
    have q1 := hc _ _ t1
    have q2 := hc _ _ t2
    rw [add_plain, Nat.zero_add] at q0 q1 q2
    rw [Nat.zero_add]
    exact ⟨q0, q1, q2⟩
set_option maxRecDepth 100000 in
set_option maxHeartbeats 2000000 in
theorem sameEnts_any (A : Option Addr) (c : Nat) (A2 : Option Addr) (c2 : Nat) (l : List EntL) (w : World) (B B2 : Nat) (hm : l.length ≤ 1000000) (h : Ents w B A l) (h2 : Ents w B2 A2 l) :
    Calls Try.prog 14 #[.slice A l.length c, .slice A2 l.length c2] w fun e w' => e = .returned (.bool true) ∧ Below w.heap.size w w' := by
  go_enter Try.func14, Try.ntmps14
  go_wp2_with fail
  go_loopw [5] (fun i wr => ∃ k m : Nat, k ≤ l.length ∧ i = .int .i64 k ∧ wr = w.drewN m) (fun i _ => l.length - (intOf i).toNat)
  case atStart => exact ⟨0, 0, by omega, rfl, rfl⟩
  case round =>
    obtain ⟨k, m, hk, rfl, hwr⟩ := hrel
    have HWR := Lib.hid hwr
    by_cases hlt : k < l.length
    · obtain ⟨b, o, rfl, _, hc⟩ := (show Ents (w.drewN m) B A l from h) (by omega)
      obtain ⟨b2, o2, rfl, _, hc2⟩ := (show Ents (w.drewN m) B2 A2 l from h2) (by omega)
      have hp := List.getElem?_eq_getElem hlt
      obtain ⟨e0, e1, e2⟩ := hc k _ hp
      obtain ⟨g0, g1, g2⟩ := hc2 k _ hp
      rw [← hwr] at e0 e1 e2 g0 g1 g2
      clear hwr hc hc2 hp
      generalize l[k].key = x0 at *
      generalize l[k].val = x1 at *
      generalize l[k].at_ = x2 at *
      have hbk : (0 : Int) ≤ (k : Int) := by omega
      have hlt' : (k : Int) < (l.length : Int) := by omega
      go_wp2_with fail
      go_quiet (fail)
      go_wp2
      go_roundw
      case rel => exact ⟨k + 1, _, by omega, by go_num, by rw [HWR.out, World.drewN_drewN]⟩
      case measure => simp [intOf]; omega
    · obtain rfl : k = l.length := by omega
      clear hwr
      go_wp2
      go_ret
      exact ⟨rfl, by rw [HWR.out]; exact below_drewN (Below.refl _ _) m⟩
set_option maxRecDepth 100000 in
set_option maxHeartbeats 4000000 in
theorem sameBits_any (A : Option Addr) (c : Nat) (A2 : Option Addr) (c2 : Nat) (l : List (List Int)) (w : World) (B B2 : Nat) (hm : l.length ≤ 1000000) (hml : ∀ x ∈ l, x.length ≤ 1000000) (h : Lists w B A l) (h2 : Lists w B2 A2 l) :
    Calls Try.prog 13 #[.slice A l.length c, .slice A2 l.length c2] w fun e w' => e = .returned (.bool true) ∧ Below w.heap.size w w' := by
  go_enter Try.func13, Try.ntmps13
  go_wp2_with fail
  go_loopw [5] (fun i wr => ∃ k m : Nat, k ≤ l.length ∧ i = .int .i64 k ∧ wr = w.drewN m) (fun i _ => l.length - (intOf i).toNat)
  case atStart => exact ⟨0, 0, by omega, rfl, rfl⟩
  case round =>
    obtain ⟨k, m, hk, rfl, hwr⟩ := hrel
    have HWR := Lib.hid hwr
    by_cases hlt : k < l.length
    · obtain ⟨ad, rfl, -, hc⟩ := h (by omega)
      obtain ⟨ad2, rfl, -, hc2⟩ := h2 (by omega)
      have hp := List.getElem?_eq_getElem hlt
      obtain ⟨B1, d1, e1, r1⟩ := hc k _ hp
      obtain ⟨B2, d2, e2, r2⟩ := hc2 k _ hp
      have hx := hml l[k] (List.getElem_mem hlt)
      generalize l[k] = x at *
      have HE := Lib.hid (fun (n : Nat) => And.intro (show (w.drewN n).cell? (ad.add k) = some (.slice B1 x.length d1) from e1) (show (w.drewN n).cell? (ad2.add k) = some (.slice B2 x.length d2) from e2))
      have HX := Lib.hid (fun (n : Nat) => And.intro (r1.drewN n) (r2.drewN n))
      obtain ⟨q1, q2⟩ := HE.out m
      rw [← hwr] at q1 q2
      clear hwr hc hc2 hp h h2 e1 e2 r1 r2
      have hbk : (0 : Int) ≤ (k : Int) := by omega
      have hlt' : (k : Int) < (l.length : Int) := by omega
      go_upto_region 6 with fail
      go_quiet (fail)
      clear q1 q2
      go_wp2_with fail
      go_loopw [6] (fun s6 wq => ∃ j m2 : Nat, j ≤ x.length ∧ s6 = .int .i64 j ∧ wq = w.drewN m2) (fun s6 _ => x.length - (intOf s6).toNat)
      case atStart => exact ⟨0, _, by omega, rfl, by rw [HWR.out, World.drewN_drewN]⟩
      case round =>
        obtain ⟨j, m2, hj, rfl, hwq⟩ := hrel
        have HWQ := Lib.hid hwq
        obtain ⟨q1, q2⟩ := HE.out m2
        rw [← hwq] at q1 q2
        by_cases hlj : j < x.length
        · obtain ⟨r1, r2⟩ := HX.out m2
          obtain ⟨a1, rfl, -, f1⟩ := r1.at_ (k := j) (by rw [iv_len]; exact hlj)
          obtain ⟨a2, rfl, -, f2⟩ := r2.at_ (k := j) (by rw [iv_len]; exact hlj)
          rw [← hwq] at f1 f2
          rw [show (iv x)[j]'(by rw [iv_len]; exact hlj) = .int .i64 x[j] from by simp [iv]] at f1 f2
          have hlj' : (j : Int) < (x.length : Int) := by omega
          have hbj : (0 : Int) ≤ (j : Int) := by omega
          generalize x[j] = y at *
          clear hwq r1 r2
          go_upto_region 11 with fail
          go_quiet (fail)
          go_wp2
          go_roundw
          case rel => exact ⟨j + 1, _, by omega, by go_num, by rw [HWQ.out, World.drewN_drewN]⟩
          case measure => simp [intOf]; omega
        · obtain rfl : j = x.length := by omega
          clear hwq
          go_wp2
          go_roundw
          case rel => exact ⟨k + 1, m2, by omega, by go_num, HWQ.out⟩
          case measure => simp [intOf]; omega
    · obtain rfl : k = l.length := by omega
      clear hwr
      go_wp2
      go_ret
      exact ⟨rfl, by rw [HWR.out]; exact below_drewN (Below.refl _ _) m⟩
end Go.Proofs.Ytcnalndhlonblaa
