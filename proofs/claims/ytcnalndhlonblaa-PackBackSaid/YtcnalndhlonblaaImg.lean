/-
  What package image's functions do, each walked once.
-/
import Derived.Test.YtcnalndhlonblaaClone
namespace Go.Proofs.Ytcnalndhlonblaa
open Go.RowKit

/-- block g is an image: the slice in its cell reads as bs, in a row of its own -/
def Img (w : World) (B g : Nat) (A : Option Addr) (c : Nat) (bs : List UInt8) : Prop :=
  Boxed w g 80 (.slice A bs.length c) ∧ w.ownsRow B 5 1 (.slice A bs.length c) bs.length (bv bs) ∧ bs.length ≤ 3686400 ∧ B ≤ g
def GivesImg (w : World) (bs : List UInt8) (e : Ending) (w' : World) : Prop := ∃ g A c, e = .returned (.pointer (some ⟨g, 0, none⟩)) ∧ Img w' w.heap.size g A c bs ∧ Below w.heap.size w w'
section
variable {w w' : World} {B g : Nat} {A : Option Addr} {c : Nat} {bs : List UInt8}
theorem Img.below (h : Img w B g A c bs) (hb : Below w.heap.size w w') : Img w' B g A c bs := ⟨heap_keep h.1 hb, own_keep h.2.1 hb, h.2.2⟩
theorem Img.kept {row : Option Nat} (h : Img w B g A c bs) (hg : w.grownBy w' row) (h1 : row ≠ some g) (h2 : (Value.slice A bs.length c).ownBlock = none ∨ (Value.slice A bs.length c).ownBlock ≠ row) : Img w' B g A c bs :=
  ⟨h.1.kept hg (fun e => h1 e.symm), h.2.1.kept hg h2, h.2.2⟩
theorem Img.mono {B' : Nat} (h : Img w B g A c bs) (hB : B' ≤ B) : Img w B' g A c bs := ⟨h.1, own_mono h.2.1 hB, h.2.2.1, by have := h.2.2.2; omega⟩
theorem Img.cell (h : Img w B g A c bs) : w.cell? ⟨g, 0, none⟩ = some (.slice A bs.length c) := h.1.cell
theorem Img.lt (h : Img w B g A c bs) : g < w.heap.size := h.1.lt
theorem Img.reads (h : Img w B g A c bs) : Reads w w.heap.size A (bv bs) := Reads.of_own h.2.1
end
theorem blocks_any {w : World} {B g : Nat} {A : Option Addr} {c : Nat} {bs : List UInt8} (h : Img w B g A c bs) :
    Calls Try.prog 43 #[.pointer (some ⟨g, 0, none⟩)] w fun e w' => e = .returned (.int .i64 (bs.length / 256 : Nat)) ∧ w = w' := by
  have hc := h.cell
  have hl := h.2.2.1
  clear h
  go_enter Try.func43, Try.ntmps43
  go_wp2
  go_ret
  exact ⟨rfl, rfl⟩
theorem blocks_nil (w : World) : Calls Try.prog 43 #[.pointer none] w fun e w' => e = .returned (.int .i64 0) ∧ w = w' := by
  go_enter Try.func43, Try.ntmps43
  go_wp2
  go_ret
  exact ⟨rfl, rfl⟩
theorem ibytes_any {w : World} {B g : Nat} {A : Option Addr} {c : Nat} {bs : List UInt8} (h : Img w B g A c bs) :
    Calls Try.prog 30 #[.pointer (some ⟨g, 0, none⟩)] w (Gives 5 (bv bs) w) := by
  have hc := h.cell
  have hr := cloneB_any A c bs w _ (Nat.le_refl _) (by have := h.2.2.1; simp only [reachBytes]; omega) h.reads
  clear h
  go_enter Try.func30, Try.ntmps30
  go_wp2_with fail
  refine hr.mono ?_
  rintro e w2 ⟨A2, c2, rfl, hown, hb⟩
  clear hr
  go_wp2
  go_ret
  exact ⟨A2, c2, rfl, hown, hb⟩
theorem ibytes_nil (w : World) : Calls Try.prog 30 #[.pointer none] w fun e w' => e = .returned (.slice none 0 0) ∧ w = w' := by
  go_enter Try.func30, Try.ntmps30
  go_wp2
  go_ret
  exact ⟨rfl, rfl⟩
theorem made_bytes (n : Nat) : (madeCells (Value.int .u8 0).cells (n * 1)).toList = bv (List.replicate n 0) := by
  rw [Nat.mul_one]
  apply List.ext_getElem
  · simp [madeCells, bv]
  · intro i h1 h2
    simp [madeCells, bv, Value.cells, Nat.mod_one]
theorem inew_ok (n : Nat) (hn : n ≤ 14400) (w : World) :
    Calls Try.prog 26 #[.int .i64 n] w fun e w' => ∃ g A c, e = .returned (.tuple #[.pointer (some ⟨g, 0, none⟩), .int .i64 0]) ∧ Img w' w.heap.size g A c (List.replicate (n * 256) 0) ∧ Below w.heap.size w w' := by
  obtain ⟨i0, hi, hz0, hz1, hz2⟩ := info_parts Try.infoByte
  have d1 : decide ((n : Int) < 0) = false := decide_eq_false (by omega)
  have d2 : decide ((14400 : Int) < n) = false := decide_eq_false (by omega)
  go_enter Try.func26, Try.ntmps26
  go_wp2_with (at_make; refine wpList_make_full _ rfl (.tmp 11) (.tmp 11) _ rfl w.heap.size 5 i0 _ 1 Try.underlying43 hi hz0 hz1 .i64 .i64 ((n : Int) * 256) ((n : Int) * 256) (n * 256) rfl rfl (by omega) (by omega) (by rw [hz2]; omega) (by simp only [maxLen]; omega) (Nat.le_refl _) ?_; intro w1 hown hg)
  rw [made_bytes] at hown
  have hB : Below w.heap.size w w1 := (Below.refl _ _).grown hg (Nat.le_refl _) (fun k hk => by cases hk)
  go_ret2
  refine ⟨w1.heap.size, some ⟨w.heap.size, 0, none⟩, n * 256, rfl, ⟨?_, ?_, ?_, hB.size⟩, hB.alloc hB.size _⟩
  · rw [List.length_replicate]; exact Boxed.new _ _ _
  · rw [List.length_replicate]; exact hown.alloc _
  · rw [List.length_replicate]; omega
theorem inew_bad (n : Int) (hn : n < 0 ∨ 14400 < n) (w : World) :
    Calls Try.prog 26 #[.int .i64 n] w fun e w' => e = .returned (.tuple #[.pointer none, .int .i64 2]) ∧ w = w' := by
  by_cases h0 : n < 0
  · have d1 : decide (n < 0) = true := decide_eq_true h0
    clear hn
    go_enter Try.func26, Try.ntmps26
    go_wp2
    go_ret2
    exact ⟨rfl, rfl⟩
  · have d1 : decide (n < 0) = false := decide_eq_false h0
    have d2 : decide (14400 < n) = true := decide_eq_true (by omega)
    clear hn
    go_enter Try.func26, Try.ntmps26
    go_wp2
    go_ret2
    exact ⟨rfl, rfl⟩
/-- what 'block' answers -/
def blkE (n : Nat) (k : Int) : Int := if k < 0 ∨ (n / 256 : Nat) ≤ k then 3 else 0
theorem block_ok {w : World} {B g : Nat} {A : Option Addr} {c : Nat} {bs : List UInt8} (h : Img w B g A c bs) (k : Nat) (hk : k < bs.length / 256) :
    ∃ h0, A = some ⟨h0, 0, none⟩ ∧ Calls Try.prog 68 #[.pointer (some ⟨g, 0, none⟩), .int .i64 k] w fun e w' => e = .returned (.tuple #[.slice (some ⟨h0, k * 256, none⟩) 256 256, .int .i64 0]) ∧ w = w' := by
  have hc := h.cell
  have hl := h.2.2.1
  have hb := blocks_any h
  obtain ⟨h0, cap, hA, hcap⟩ : ∃ h0 cap, A = some ⟨h0, 0, none⟩ ∧ bs.length ≤ c := by
    rcases h.2.1.2 with ⟨hv, hz⟩ | ⟨g', cap, cur, hv, _, _, hnc, _⟩
    · omega
    · injection hv with e1 e2 e3
      exact ⟨g', cap, e1, by omega⟩
  subst hA
  refine ⟨h0, rfl, ?_⟩
  clear h
  have d1 : decide ((k : Int) < 0) = false := decide_eq_false (by omega)
  have d2 : decide (bs.length / 256 ≤ k) = false := decide_eq_false (by omega)
  have hk2 : k * 256 + 256 ≤ bs.length := by omega
  go_enter Try.func68, Try.ntmps68
  go_wp2_with fail
  refine hb.mono ?_
  rintro e w1 ⟨rfl, rfl⟩
  clear hb
  go_wp2
  rw [show (k + 1) * 256 - k * 256 = 256 by omega]
  go_ret2
  exact ⟨rfl, rfl⟩
theorem block_bad {w : World} {B g : Nat} {A : Option Addr} {c : Nat} {bs : List UInt8} (h : Img w B g A c bs) (k : Int) (hk : k < 0 ∨ ((bs.length / 256 : Nat) : Int) ≤ k) :
    Calls Try.prog 68 #[.pointer (some ⟨g, 0, none⟩), .int .i64 k] w fun e w' => e = .returned (.tuple #[.slice none 0 0, .int .i64 3]) ∧ w = w' := by
  have hb := blocks_any h
  clear h
  by_cases h0 : k < 0
  · have d1 : decide (k < 0) = true := decide_eq_true h0
    clear hk
    go_enter Try.func68, Try.ntmps68
    go_wp2
    go_ret2
    exact ⟨rfl, rfl⟩
  · have d1 : decide (k < 0) = false := decide_eq_false h0
    have hk' : ((bs.length / 256 : Nat) : Int) ≤ k := by omega
    generalize bs.length / 256 = m at *
    have d2 : decide ((m : Int) ≤ k) = true := decide_eq_true hk'
    clear hk
    go_enter Try.func68, Try.ntmps68
    go_wp2_with fail
    refine hb.mono ?_
    rintro e w1 ⟨rfl, rfl⟩
    clear hb
    go_wp2
    go_ret2
    exact ⟨rfl, rfl⟩
theorem block_nil (k : Int) (w : World) : Calls Try.prog 68 #[.pointer none, .int .i64 k] w fun e w' => e = .returned (.tuple #[.slice none 0 0, .int .i64 18]) ∧ w = w' := by
  go_enter Try.func68, Try.ntmps68
  go_wp2
  go_ret2
  exact ⟨rfl, rfl⟩
theorem iread_ok {w : World} {B g : Nat} {A : Option Addr} {c : Nat} {bs : List UInt8} (h : Img w B g A c bs) (k : Nat) (hk : k < bs.length / 256) :
    Calls Try.prog 44 #[.pointer (some ⟨g, 0, none⟩), .int .i64 k] w (GivesX 5 (bv ((bs.drop (k * 256)).take 256)) 0 w) := by
  obtain ⟨h0, rfl, hb⟩ := block_ok h k hk
  have hlen : ((bs.drop (k * 256)).take 256).length = 256 := by rw [List.length_take, List.length_drop]; omega
  have hr := cloneB_any (some ⟨h0, k * 256, none⟩) 256 ((bs.drop (k * 256)).take 256) w _ (Nat.le_refl _) (by rw [hlen]; simp [reachBytes]) (by
    obtain ⟨g', hA, hc⟩ := own_cells h.2.1 (by omega)
    injection hA with hA
    injection hA with hA _ _
    subst hA
    refine fun hn => ⟨_, rfl, h.2.1.lt h0 rfl |>.2, fun j u hu => ?_⟩
    rw [add_plain]
    refine hc _ u ?_
    rw [bv, List.map_take, List.map_drop] at hu
    rw [List.getElem?_take] at hu
    split at hu
    · rw [List.getElem?_drop] at hu
      exact hu
    · cases hu)
  rw [hlen] at hr
  clear h
  generalize (bs.drop (k * 256)).take 256 = x at *
  have HL := Lib.hid hlen
  clear hlen
  go_enter Try.func44, Try.ntmps44
  go_wp2_with fail
  refine hb.mono ?_
  rintro e w1 ⟨rfl, rfl⟩
  clear hb
  go_wp2_with fail
  refine hr.mono ?_
  rintro e w1 ⟨A2, c2, rfl, hown, hb⟩
  clear hr
  go_wp2
  go_ret2
  exact ⟨A2, c2, rfl, hown, hb⟩
theorem clone_nil (w : World) : Calls Try.prog 41 #[.slice none 0 0] w fun e w' => e = .returned (.slice none 0 0) ∧ w = w' := by
  have he := fun w => Lib.run_eql_slice_nil (P := Try.prog) w 43
  go_enter Try.func41, Try.ntmps41
  go_wp2_with fail
  go_ret
  exact ⟨rfl, rfl⟩
theorem iread_bad {w : World} {B g : Nat} {A : Option Addr} {c : Nat} {bs : List UInt8} (h : Img w B g A c bs) (k : Int) (hk : k < 0 ∨ ((bs.length / 256 : Nat) : Int) ≤ k) :
    Calls Try.prog 44 #[.pointer (some ⟨g, 0, none⟩), .int .i64 k] w fun e w' => e = .returned (.tuple #[.slice none 0 0, .int .i64 3]) ∧ w = w' := by
  have hb := block_bad h k hk
  clear h hk
  go_enter Try.func44, Try.ntmps44
  go_wp2_with fail
  refine hb.mono ?_
  rintro e w1 ⟨rfl, rfl⟩
  clear hb
  go_wp2_with fail
  refine (clone_nil _).mono ?_
  rintro e w1 ⟨rfl, rfl⟩
  go_wp2
  go_ret2
  exact ⟨rfl, rfl⟩
theorem iread_nil (k : Int) (w : World) : Calls Try.prog 44 #[.pointer none, .int .i64 k] w fun e w' => e = .returned (.tuple #[.slice none 0 0, .int .i64 18]) ∧ w = w' := by
  have hb := block_nil k w
  go_enter Try.func44, Try.ntmps44
  go_wp2_with fail
  refine hb.mono ?_
  rintro e w1 ⟨rfl, rfl⟩
  clear hb
  go_wp2_with fail
  refine (clone_nil _).mono ?_
  rintro e w1 ⟨rfl, rfl⟩
  go_wp2
  go_ret2
  exact ⟨rfl, rfl⟩
/-- the bytes with a block in them -/
def putBlk (bs : List UInt8) (k : Nat) (b : List UInt8) : List UInt8 := bs.take (k * 256) ++ (b ++ bs.drop (k * 256 + 256))
theorem putBlk_len (bs : List UInt8) (k : Nat) (b : List UInt8) (hk : k < bs.length / 256) (hb : b.length = 256) : (putBlk bs k b).length = bs.length := by
  simp only [putBlk, List.length_append, List.length_take, List.length_drop, hb]; omega
theorem iwrite_ok {w : World} {B g : Nat} {A : Option Addr} {c : Nat} {bs : List UInt8} (h : Img w B g A c bs) (k : Nat) (hk : k < bs.length / 256) {B2 : Nat} (A2 : Option Addr) (c2 : Nat) (b : List UInt8) (hb : b.length = 256) (hr : Reads w B2 A2 (bv b)) :
    Calls Try.prog 92 #[.pointer (some ⟨g, 0, none⟩), .int .i64 k, .slice A2 256 c2] w fun e w' => e = .returned (.int .i64 0) ∧ Img w' B g A c (putBlk bs k b) ∧ w.grownBy w' (Value.slice A bs.length c).ownBlock := by
  obtain ⟨h0, rfl, hblk⟩ := block_ok h k hk
  have hlen := putBlk_len bs k b hk hb
  have hbase := own_base h.2.1
  have hne := h.1.not_row (by decide) h.2.1
  have HI := Lib.hid h
  have hown := h.2.1
  have hL := h.2.2.1
  have hx : (bv bs).take (k * 256) ++ (bv b ++ (bv bs).drop (k * 256 + 256)) = bv (putBlk bs k b) := by
    rw [bv_take, bv_drop]
    simp only [putBlk, bv_append]
  have HX := Lib.hid hx
  have HL := Lib.hid hlen
  have HB := Lib.hid hb
  have hlb : (bv b).length = 256 := by rw [bv_len]; exact hb
  have HLB := Lib.hid hlb
  have hsz : (Try.prog.info? 5).map (·.size) = some 1 := by kernel_rfl
  clear hx h hlen hb hlb
  go_enter Try.func92, Try.ntmps92
  go_wp2_with fail
  refine hblk.mono ?_
  rintro e w1 ⟨rfl, rfl⟩
  clear hblk
  go_wp2_with (with_reducible refine wpList_copy_mid rfl (.tmp 21) (.tmp 22) 43 43 rfl 5 Try.underlying43 hsz B h0 bs.length c (bv bs) hown (k * 256) 256 (by omega) (by omega) 256 rfl B2 A2 c2 (bv b) rfl HLB.out hr (bv_one b) ?_; intro w2 hown2 hg2 hs2)
  rw [HX.out] at hown2
  go_ret
  exact ⟨rfl, ⟨by rw [HL.out]; exact HI.out.1.kept hg2 hne, by rw [HL.out]; exact hown2, by rw [HL.out]; exact hL, HI.out.2.2.2⟩, hg2⟩
theorem iwrite_len {w : World} {B g : Nat} {A : Option Addr} {c : Nat} {bs : List UInt8} (h : Img w B g A c bs) (k : Nat) (hk : k < bs.length / 256) (A2 : Option Addr) (n c2 : Nat) (hn : n ≠ 256) :
    Calls Try.prog 92 #[.pointer (some ⟨g, 0, none⟩), .int .i64 k, .slice A2 n c2] w fun e w' => e = .returned (.int .i64 1) ∧ w = w' := by
  obtain ⟨h0, rfl, hblk⟩ := block_ok h k hk
  have d1 : ((n : Int) != 256) = true := by simp; omega
  clear h
  go_enter Try.func92, Try.ntmps92
  go_wp2_with fail
  refine hblk.mono ?_
  rintro e w1 ⟨rfl, rfl⟩
  clear hblk
  go_wp2
  go_ret
  exact ⟨rfl, rfl⟩
theorem iwrite_bad {w : World} {B g : Nat} {A : Option Addr} {c : Nat} {bs : List UInt8} (h : Img w B g A c bs) (k : Int) (hk : k < 0 ∨ ((bs.length / 256 : Nat) : Int) ≤ k) (A2 : Option Addr) (n c2 : Nat) :
    Calls Try.prog 92 #[.pointer (some ⟨g, 0, none⟩), .int .i64 k, .slice A2 n c2] w fun e w' => e = .returned (.int .i64 3) ∧ w = w' := by
  have hb := block_bad h k hk
  clear h hk
  go_enter Try.func92, Try.ntmps92
  go_wp2_with fail
  refine hb.mono ?_
  rintro e w1 ⟨rfl, rfl⟩
  clear hb
  go_wp2
  go_ret
  exact ⟨rfl, rfl⟩
theorem iwrite_nil (k : Int) (v : Value) (w : World) : Calls Try.prog 92 #[.pointer none, .int .i64 k, v] w fun e w' => e = .returned (.int .i64 18) ∧ w = w' := by
  have hb := block_nil k w
  go_enter Try.func92, Try.ntmps92
  go_wp2_with fail
  refine hb.mono ?_
  rintro e w1 ⟨rfl, rfl⟩
  clear hb
  go_wp2
  go_ret
  exact ⟨rfl, rfl⟩
/-- the bytes of an image of bytes -/
def imgOf (l : List UInt8) : List UInt8 := l.take (min (l.length / 256) 14400 * 256)
set_option maxRecDepth 100000 in
theorem iof_any (A : Option Addr) (c : Nat) (l : List UInt8) (w : World) (hq : l.length ≤ c) (hm : l.length ≤ reachBytes) (h : Reads w w.heap.size A (bv l)) :
    Calls Try.prog 20 #[.slice A l.length c] w (GivesImg w (imgOf l)) := by
  have hlen : (imgOf l).length = min (l.length / 256) 14400 * 256 := by unfold imgOf; rw [List.length_take]; omega
  have hr := fun c' => cloneB_any A c' (imgOf l) w _ (Nat.le_refl _) (by unfold imgOf; rw [List.length_take]; simp only [reachBytes] at *; omega) (by unfold imgOf; rw [← bv_take]; exact h.take _)
  have h36 : (imgOf l).length ≤ 3686400 := by omega
  have hb : ∀ m, m = min (l.length / 256) 14400 → m * 256 ≤ l.length := fun m hm => by omega
  simp only [reachBytes] at hm
  generalize imgOf l = x at *
  clear h
  rcases Nat.lt_or_ge 14400 (l.length / 256) with hle | hle
  · rw [Nat.min_eq_right (Nat.le_of_lt hle)] at hlen hb
    have d2 : decide ((14400 : Int) < (l.length : Int) / 256) = true := decide_eq_true (by omega)
    have hlen : x.length = 3686400 := hlen
    have hb2 : 3686400 ≤ l.length := hb _ rfl
    clear hb
    rw [hlen] at hr
    have HX := Lib.hid hlen
    clear hlen
    go_enter Try.func20, Try.ntmps20
    go_wp2_with fail
    go_wp2_with fail
    refine (hr c).mono ?_
    rintro e w2 ⟨A2, c2, rfl, hown, hB⟩
    rw [bv_len, HX.out] at hown
    rw [bv_len, HX.out]
    clear hr
    go_wp2
    go_ret
    exact ⟨w2.heap.size, A2, c2, rfl, ⟨by rw [HX.out]; exact Boxed.new _ _ _, by rw [HX.out]; exact hown.alloc _, h36, hB.size⟩, hB.alloc hB.size _⟩
  · rw [Nat.min_eq_left hle] at hlen hb
    have d2 : decide ((14400 : Int) < ((l.length / 256 : Nat) : Int)) = false := decide_eq_false (by omega)
    rw [hlen] at hr
    have HX := Lib.hid hlen
    clear hlen
    go_enter Try.func20, Try.ntmps20
    go_wp2_with fail
    refine (hr c).mono ?_
    rintro e w2 ⟨A2, c2, rfl, hown, hB⟩
    rw [bv_len, HX.out] at hown
    rw [bv_len, HX.out]
    clear hr
    go_wp2
    go_ret
    exact ⟨w2.heap.size, A2, c2, rfl, ⟨by rw [HX.out]; exact Boxed.new _ _ _, by rw [HX.out]; exact hown.alloc _, h36, hB.size⟩, hB.alloc hB.size _⟩
end Go.Proofs.Ytcnalndhlonblaa
