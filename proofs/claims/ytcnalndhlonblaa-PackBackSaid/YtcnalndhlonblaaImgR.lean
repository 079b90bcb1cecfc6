/-
  What the reference's functions of layer 3 do, each walked once.
-/
import Derived.Test.YtcnalndhlonblaaImg
import Derived.Deep.RegionLaw
import Derived.Deep.DrawnRows
namespace Go.Proofs.Ytcnalndhlonblaa
open Go.RowKit

theorem Try.infoStr : (Try.prog.info? 9).map (fun i => (i.zero, i.size, i.bytes)) = some (some (.string ⟨#[]⟩), 1, 16) := by kernel_rfl
/-- block g is the reference's image: strings in a row of its own -/
def RImg (w : World) (B g : Nat) (A : Option Addr) (c : Nat) (L : List (List UInt8)) : Prop :=
  Boxed w g 83 (.slice A L.length c) ∧ w.ownsRow B 9 1 (.slice A L.length c) L.length (sv L) ∧ L.length ≤ 14400 ∧ B ≤ g
section
variable {w w' : World} {B g : Nat} {A : Option Addr} {c : Nat} {L : List (List UInt8)}
theorem RImg.below (h : RImg w B g A c L) (hb : Below w.heap.size w w') : RImg w' B g A c L := ⟨heap_keep h.1 hb, own_keep h.2.1 hb, h.2.2⟩
theorem RImg.kept {row : Option Nat} (h : RImg w B g A c L) (hg : w.grownBy w' row) (h1 : row ≠ some g) (h2 : (Value.slice A L.length c).ownBlock = none ∨ (Value.slice A L.length c).ownBlock ≠ row) : RImg w' B g A c L :=
  ⟨h.1.kept hg (fun e => h1 e.symm), h.2.1.kept hg h2, h.2.2⟩
theorem RImg.mono {B' : Nat} (h : RImg w B g A c L) (hB : B' ≤ B) : RImg w B' g A c L := ⟨h.1, own_mono h.2.1 hB, h.2.2.1, by have := h.2.2.2; omega⟩
theorem RImg.cell (h : RImg w B g A c L) : w.cell? ⟨g, 0, none⟩ = some (.slice A L.length c) := h.1.cell
theorem RImg.reads (h : RImg w B g A c L) : Reads w w.heap.size A (sv L) := Reads.of_own h.2.1
theorem RImg.alloc (h : RImg w B g A c L) (o : Obj) : RImg (w.alloc o) B g A c L := h.below (below_alloc1 w o)
theorem RImg.new (w : World) : RImg (w.alloc (.cells #[.slice none 0 0] 83)) w.heap.size w.heap.size none 0 [] := ⟨Boxed.new _ _ _, World.ownsRow_nil _ _ _ _, by simp, Nat.le_refl _⟩
/-- a row that grew, stored back into its box -/
theorem RImg.put {A' : Option Addr} {c' n : Nat} {v : Value} {L' : List (List UInt8)} (h : RImg w B g A c L) (hg : w.grownBy w' v.ownBlock) (hv : v = .slice A L.length c) (hown : w'.ownsRow B 9 1 (.slice A' n c') n (sv L')) (hn : n = L'.length) (hL : L'.length ≤ 14400) :
    Boxed w' g 83 (.slice A L.length c) ∧ RImg (w'.setCell ⟨g, 0, none⟩ (.slice A' n c')) B g A' c' L' := by
  subst hv hn
  have hne := h.1.not_row (by decide) h.2.1
  have hb := h.1.kept hg hne
  exact ⟨hb, hb.set _, ownsRow_setCell_other hown (fun e => hb.not_row (by decide) hown e.symm) _, hL, h.2.2.2⟩
end
theorem string_row (w : World) (t : TypeId) (l : List UInt8) : Reads (w.alloc (.cells #[.string ⟨l.toArray⟩] t)) (w.heap.size + 1) (some ⟨w.heap.size, 0, none⟩) (sv [l]) := Reads.new w (sv [l]) t (0, 0)
theorem conv_own {w : World} {base n c : Nat} {A : Option Addr} (l : List UInt8) (hn : l.length = n) (h : w.ownsRow base 5 1 (.slice A n c) n (bv l)) : (convert 43 9 (.slice A n c)).run Try.prog w = .ok (.string ⟨l.toArray⟩) w :=
  run_conv_bytes (P := Try.prog) w 43 9 5 Try.underlying43 Try.underlying5 Try.underlying9 n c hn.symm (Reads.of_own h)
set_option maxRecDepth 100000 in
theorem rnew_ok (n : Nat) (hn : n ≤ 14400) (w : World) :
    Calls Try.prog 55 #[.int .i64 n] w fun e w' => ∃ g A c, e = .returned (.tuple #[.pointer (some ⟨g, 0, none⟩), .int .i64 0]) ∧ RImg w' w.heap.size g A c (List.replicate n (List.replicate 256 0)) ∧ Below w.heap.size w w' := by
  obtain ⟨i0, hi, hz0, hz1, hz2⟩ := info_parts Try.infoByte
  obtain ⟨i1, ki, kz0, kz1, kz2⟩ := info_parts Try.infoStr
  have d1 : decide ((n : Int) < 0) = false := decide_eq_false (by omega)
  have d2 : decide ((14400 : Int) < n) = false := decide_eq_false (by omega)
  go_enter Try.func55, Try.ntmps55
  obtain ⟨z, hz⟩ : ∃ z : List UInt8, z = List.replicate 256 0 := ⟨_, rfl⟩
  have hzl : z.length = 256 := by rw [hz]; exact List.length_replicate
  have HM : (madeCells (Value.int .u8 0).cells (256 * 1)).toList = bv z := by rw [made_bytes, hz]
  have HM := Lib.hid HM
  have HC := Lib.hid (fun W h => conv_own (w := W) (base := w.heap.size) (A := some ⟨w.heap.size + 1, 0, none⟩) (c := 256) z hzl h)
  rw [← hz]
  clear hz hzl
  go_wp2_with (at_make; refine wpList_make_full _ rfl (.const _) (.const _) _ rfl w.heap.size 5 i0 _ 1 Try.underlying43 hi hz0 hz1 .i64 .i64 256 256 256 rfl rfl (by omega) (by omega) (by rw [hz2]; omega) (by simp only [maxLen]; omega) (by simp) ?_; intro w1 hown hg; rw [HM.out, World.size_alloc] at hown; have hcv := HC.out w1 hown)
  have hB : Below w.heap.size w w1 := (below_alloc1 w _).grown hg (by simp) (fun k hk => by cases hk)
  have hI0 := (RImg.new w).kept hg (by simp) (.inl rfl)
  clear hcv hown hg
  go_loopw [6] (fun i wr => ∃ (k : Nat) (A : Option Addr) (c : Nat), k ≤ n ∧ i = .int .i64 k ∧ RImg wr w.heap.size w.heap.size A c (List.replicate k z) ∧ Below w.heap.size w wr) (fun i _ => n - (intOf i).toNat)
  case atStart => exact ⟨0, none, 0, by omega, rfl, hI0, hB⟩
  case round =>
    obtain ⟨k, A, c, hk, rfl, hI, hbr⟩ := hrel
    have hc0 := hI.cell
    have hl : (List.replicate k z).length = k := List.length_replicate
    rw [hl] at hc0
    by_cases hlt : k < n
    · have hI1 := hI.alloc (.cells #[.string ⟨z.toArray⟩] 9)
      have ho := hI1.2.1
      rw [hl] at ho
      have hr2 := string_row wr 9 z
      have hc1 : (wr.alloc (.cells #[.string ⟨z.toArray⟩] 9)).cell? ⟨w.heap.size, 0, none⟩ = some (.slice A k c) := by rw [← hl]; exact hI1.cell
      have HL := Lib.hid hl
      clear hl
      have hsz := hbr.size
      go_wp2_with (at_builtin; refine wpList_append_to _ rfl (.tmp 26) (.tmp 28) _ rfl w.heap.size 9 i1 _ 16 Try.underlying81 ki kz0 kz1 kz2 rfl _ k (sv (List.replicate k z)) rfl ho _ _ 1 1 (sv [z]) rfl rfl hr2 (sv_one _) (by simp only [maxLen]; omega) (by omega) (by simp; omega) ?_; intro A' c' w2 hown2 hg2 hb2 _; have hp := hI1.put hg2 (by rw [HL.out]; rfl) (L' := List.replicate (k + 1) z) (by rw [List.replicate_succ', sv_append]; exact hown2) (by simp) (by simp; omega); have k0 := hp.1.cell; have z0 := hp.1.frozen)
      have hB2 : Below w.heap.size w w2 := (hbr.alloc hsz _).trans hb2
      go_roundw
      case rel => exact ⟨k + 1, A', c', by omega, by go_num, hp.2, hB2.setCell (Nat.le_refl _) _⟩
      case measure => simp [intOf]; omega
    · obtain rfl : k = n := by omega
      clear hl
      go_wp2
      go_ret2
      exact ⟨w.heap.size, A, c, rfl, hI, hbr⟩
theorem rnew_bad (n : Int) (hn : n < 0 ∨ 14400 < n) (w : World) :
    Calls Try.prog 55 #[.int .i64 n] w fun e w' => e = .returned (.tuple #[.pointer none, .int .i64 2]) ∧ w = w' := by
  by_cases h0 : n < 0
  · have d1 : decide (n < 0) = true := decide_eq_true h0
    clear hn
    go_enter Try.func55, Try.ntmps55
    go_wp2
    go_ret2
    exact ⟨rfl, rfl⟩
  · have d1 : decide (n < 0) = false := decide_eq_false h0
    have d2 : decide (14400 < n) = true := decide_eq_true (by omega)
    clear hn
    go_enter Try.func55, Try.ntmps55
    go_wp2
    go_ret2
    exact ⟨rfl, rfl⟩
set_option maxRecDepth 100000 in
theorem rbytes_img {w : World} {B g : Nat} {A : Option Addr} {c : Nat} {L : List (List UInt8)} (h : RImg w B g A c L) (hL : ∀ l ∈ L, l.length = 256) :
    Calls Try.prog 31 #[.pointer (some ⟨g, 0, none⟩)] w (Gives 5 (bv L.flatten) w) := by
  obtain ⟨i0, hi, hz0, hz1, hz2⟩ := info_parts Try.infoByte
  have hn := h.2.2.1
  have HF : ∀ k, k ≤ L.length → (L.take k).flatten.length = k * 256 := fun k hk => by
    have : ∀ M : List (List UInt8), (∀ l ∈ M, l.length = 256) → M.flatten.length = M.length * 256 := by
      intro M
      induction M with
      | nil => intro _; rfl
      | cons a M ih => intro hM; rw [List.flatten_cons, List.length_append, hM a (by simp), ih (fun l hl => hM l (by simp [hl])), List.length_cons]; omega
    rw [this _ (fun l hl => hL l (List.mem_of_mem_take hl)), List.length_take]
    congr 1
    omega
  have HF := Lib.hid HF
  have HL := Lib.hid hL
  clear hL
  go_enter Try.func31, Try.ntmps31
  go_wp2_with fail
  go_loopw [3, 4] (fun v i wr => ∃ (k : Nat), k ≤ L.length ∧ i = .int .i64 k ∧ wr.ownsRow w.heap.size 5 1 v (k * 256) (bv (L.take k).flatten) ∧ Below w.heap.size w wr) (fun _ i _ => L.length - (intOf i).toNat)
  case atStart => exact ⟨0, by omega, rfl, World.ownsRow_nil _ _ _ _, Below.refl _ _⟩
  case round =>
    obtain ⟨k, hk, rfl, hown, hbr⟩ := hrel
    have hI := h.below hbr
    have hc0 := hI.cell
    by_cases hlt : k < L.length
    · obtain ⟨ad, rfl, hadb, hc⟩ := hI.reads.at_ (k := k) (by rw [sv_len]; exact hlt)
      have hg := sv_get L k hlt
      rw [List.getElem?_eq_getElem (by rw [sv_len]; exact hlt)] at hg
      injection hg with hg
      rw [hg] at hc
      have hl := HL.out L[k] (List.getElem_mem hlt)
      have hsn : (L.take (k + 1)).flatten = (L.take k).flatten ++ L[k] := by rw [take_snoc L k hlt, List.flatten_append, List.flatten_cons, List.flatten_nil, List.append_nil]
      have HS := Lib.hid hsn
      have HLL := Lib.hid hl
      clear hsn hg hl
      generalize L[k] = x at *
      obtain ⟨A3, c3, rfl⟩ := own_form hown
      have hsz := hbr.size
      go_wp2_with (at_builtin; refine wpList_append_str _ rfl (.tmp 14) (.tmp 21) _ _ rfl w.heap.size 5 i0 _ Try.underlying43 Try.underlying9 hi hz0 hz1 hz2 rfl _ (k * 256) (bv (L.take k).flatten) rfl hown x rfl (by rw [HLL.out]; omega) hsz ?_; intro A' c' w2 hown2 hg2 hb2)
      rw [HLL.out] at hown2
      rw [HLL.out]
      go_roundw
      case rel => exact ⟨k + 1, by omega, by go_num, by rw [HS.out, bv_append, show (k + 1) * 256 = k * 256 + 256 by omega]; exact hown2, hbr.trans hb2⟩
      case measure => simp [intOf]; omega
    · obtain rfl : k = L.length := by omega
      rw [List.take_length] at hown
      obtain ⟨A3, c3, rfl⟩ := own_form hown
      have hfl := HF.out L.length (Nat.le_refl _)
      rw [List.take_length] at hfl
      have HFL := Lib.hid hfl
      clear hfl
      go_wp2
      go_ret
      exact ⟨A3, c3, by rw [bv_len, HFL.out]; rfl, by rw [bv_len, HFL.out]; exact hown, hbr⟩
end Go.Proofs.Ytcnalndhlonblaa
