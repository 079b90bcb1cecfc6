/-
  Chapter 45, the plain law of Unpack; no program stands here.
-/
import Derived.Test.YtcnalndhlonblaaPkP
import Derived.Test.YtcnalndhlonblaaLaw03P
import Derived.Test.YtcnalndhlonblaaCrcP
namespace Go.Proofs.Ytcnalndhlonblaa
/-- the number of a block's piece, how many bytes it has, these bytes, and what they stand for -/
def noU (r : List UInt8) : Nat := le (r.take 4)
def kU (r : List UInt8) : Nat := le ((r.drop 4).take 2)
def sU (r : List UInt8) : List UInt8 := (r.drop 6).take (kU r)
def cU (r : List UInt8) : List UInt8 := (looseR 256 (sU r) []).1
/-- what a piece answers: nb blocks, the next number at least nx -/
def stE (nb : Nat) (r : List UInt8) (nx : Nat) : Int :=
  if r.length < 6 + kU r then 3
  else if nb ≤ noU r then 2
  else if noU r < nx then 8
  else if (looseR 256 (sU r) []).2 = 0 then (if (cU r).length = 256 ∧ zeroB (cU r) = false ∧ squeezeL (cU r) = sU r then 0 else 7)
  else (looseR 256 (sU r) []).2
def upF : Nat → List UInt8 → Nat → List (List UInt8) → List (List UInt8) × Int
  | 0, r, _, L => if r = [] then (L, 0) else ([], 7)
  | n + 1, r, nx, L => if stE L.length r nx = 0 then upF n (r.drop (6 + kU r)) (noU r + 1) (L.set (noU r) (cU r)) else ([], stE L.length r nx)
def zblk : List UInt8 := List.replicate 256 0
def upI (inn : List UInt8) : List (List UInt8) × Int :=
  if inn.take 8 ≠ magicB then ([], 7)
  else if 14400 < le ((inn.drop 8).take 4) then ([], 2)
  else upF (le ((inn.drop 12).take 4)) (inn.drop 16) 0 (List.replicate (le ((inn.drop 8).take 4)) zblk)
def upE (b : List UInt8) : List (List UInt8) × Int :=
  if b.length < 20 then ([], 3)
  else if sumB (b.take (b.length - 4)) ≠ b then ([], 4)
  else upI (b.take (b.length - 4))
theorem sumB_len (b : List UInt8) : (sumB b).length = b.length + 4 := by simp [sumB, leb_len]
theorem stE_zero {nb : Nat} {r : List UInt8} {nx : Nat} (h : stE nb r nx = 0) :
    6 + kU r ≤ r.length ∧ noU r < nb ∧ nx ≤ noU r ∧ (looseR 256 (sU r) []).2 = 0 ∧ (cU r).length = 256 ∧ zeroB (cU r) = false ∧ squeezeL (cU r) = sU r := by
  unfold stE at h
  split at h
  · cases h
  · split at h
    · cases h
    · split at h
      · cases h
      · split at h
        · split at h
          · rename_i h1 h2 h3 h4 h5
            exact ⟨by omega, by omega, by omega, h4, h5.1, h5.2.1, h5.2.2⟩
          · cases h
        · rename_i h4; exact absurd h h4
def usedFrom (L : List (List UInt8)) (a : Nat) : List Nat := (List.range' a (L.length - a)).filter fun i => !zeroB (L.getD i [])
theorem usedN_range (L : List (List UInt8)) : ∀ n, usedN L n = (List.range n).filter fun i => !zeroB (L.getD i [])
  | 0 => rfl
  | n + 1 => by
    rw [List.range_succ, List.filter_append, ← usedN_range L n]
    show (if zeroB (L.getD n []) = true then usedN L n else usedN L n ++ [n]) = _
    cases h : zeroB (L.getD n [])
    · rw [if_neg (by decide), List.filter_cons, h]; rfl
    · rw [if_pos rfl, List.filter_cons, h]; simp
theorem used_from (L : List (List UInt8)) : usedL L = usedFrom L 0 := by
  unfold usedL usedFrom
  rw [usedN_range, List.range_eq_range']
  rfl
theorem usedFrom_end (L : List (List UInt8)) {a : Nat} (h : L.length ≤ a) : usedFrom L a = [] := by
  unfold usedFrom
  rw [show L.length - a = 0 by omega]
  rfl
theorem usedFrom_step (L : List (List UInt8)) {a : Nat} (h : a < L.length) : usedFrom L a = if zeroB (L.getD a []) = true then usedFrom L (a + 1) else a :: usedFrom L (a + 1) := by
  unfold usedFrom
  rw [show L.length - a = (L.length - (a + 1)) + 1 by omega, List.range'_succ, List.filter_cons]
  cases zeroB (L.getD a []) <;> simp
theorem usedFrom_skip (L : List (List UInt8)) : ∀ (d a b : Nat), b - a = d → a ≤ b → b ≤ L.length → (∀ i, a ≤ i → i < b → zeroB (L.getD i []) = true) → usedFrom L a = usedFrom L b
  | 0, a, b, hd, h1, h2, h => by rw [show a = b by omega]
  | d + 1, a, b, hd, h1, h2, h => by
    rw [usedFrom_step L (by omega), if_pos (h a (by omega) (by omega))]
    exact usedFrom_skip L d (a + 1) b (by omega) (by omega) h2 fun i h3 h4 => h i (by omega) h4
theorem zero_all {l : List UInt8} (h : zeroB l = true) (hl : l.length = 256) : l = zblk := by
  unfold zeroB at h
  rw [zblk, ← hl]
  apply List.eq_replicate_of_mem
  intro b hb
  have := List.all_eq_true.1 h b hb
  simpa using this
theorem zero_zblk : zeroB zblk = true := by decide +kernel
theorem piece_len (L : List (List UInt8)) (k : Nat) : (pieceB L k).length = 6 + (squeezeL (L.getD k [])).length := by simp [pieceB, leb_len]; omega
theorem piece_parts (L : List (List UInt8)) (k : Nat) (hk : k < 4294967296) (hs : (squeezeL (L.getD k [])).length < 65536) (tl : List UInt8) :
    noU (pieceB L k ++ tl) = k ∧ kU (pieceB L k ++ tl) = (squeezeL (L.getD k [])).length ∧ sU (pieceB L k ++ tl) = squeezeL (L.getD k []) ∧ (pieceB L k ++ tl).drop (6 + kU (pieceB L k ++ tl)) = tl := by
  have h4 : (leb 4 k).length = 4 := leb_len 4 k
  have h2 : (leb 2 (squeezeL (L.getD k [])).length).length = 2 := leb_len 2 _
  have e1 : (pieceB L k ++ tl).take 4 = leb 4 k := by
    unfold pieceB
    rw [List.append_assoc, List.append_assoc, List.take_append_of_le_length (by omega), List.take_of_length_le (by omega)]
  have e2 : (pieceB L k ++ tl).drop 4 = leb 2 (squeezeL (L.getD k [])).length ++ (squeezeL (L.getD k []) ++ tl) := by
    unfold pieceB
    rw [List.append_assoc, List.append_assoc, List.drop_append_of_le_length (by omega), List.drop_of_length_le (by omega), List.nil_append]
  have e3 : ((pieceB L k ++ tl).drop 4).take 2 = leb 2 (squeezeL (L.getD k [])).length := by
    rw [e2, List.take_append_of_le_length (by omega), List.take_of_length_le (by omega)]
  have e4 : (pieceB L k ++ tl).drop 6 = squeezeL (L.getD k []) ++ tl := by
    rw [show (6 : Nat) = 4 + 2 from rfl, ← List.drop_drop, e2, List.drop_append_of_le_length (by omega), List.drop_of_length_le (by omega), List.nil_append]
  have n1 : noU (pieceB L k ++ tl) = k := by unfold noU; rw [e1]; exact le_leb 4 k (by omega)
  have n2 : kU (pieceB L k ++ tl) = (squeezeL (L.getD k [])).length := by unfold kU; rw [e3]; exact le_leb 2 _ (by omega)
  have n3 : sU (pieceB L k ++ tl) = squeezeL (L.getD k []) := by
    unfold sU
    rw [n2, e4, List.take_append_of_le_length (by omega), List.take_of_length_le (by omega)]
  refine ⟨n1, n2, n3, ?_⟩
  rw [n2, ← List.drop_drop, e4, List.drop_append_of_le_length (by omega), List.drop_of_length_le (by omega), List.nil_append]
theorem sq_small {b : List UInt8} (h : b.length = 256) : (squeezeL b).length < 65536 ∧ looseR 256 (squeezeL b) [] = (b, 0) := by
  obtain ⟨h1, h2⟩ := squeeze_made b
  refine ⟨by omega, ?_⟩
  rw [h1, if_pos (.inr (by rw [h]; decide))]
theorem getD_each {L : List (List UInt8)} (h : Each L) {k : Nat} (hk : k < L.length) : (L.getD k []).length = 256 := by
  rw [List.getD_eq_getElem?_getD, List.getElem?_eq_getElem hk]
  exact h _ (List.getElem_mem hk)
/-- what is still to be read is read -/
theorem upF_pack {L : List (List UInt8)} (hE : Each L) (hn : L.length ≤ 14400) : ∀ (d a nx : Nat), L.length - a = d → a ≤ L.length → nx ≤ a →
    upF (usedFrom L a).length ((usedFrom L a).flatMap (pieceB L)) nx (L.take a ++ List.replicate (L.length - a) zblk) = (L, 0)
  | 0, a, nx, hd, ha, hx => by
    rw [usedFrom_end L (by omega), show L.length - a = 0 by omega, show a = L.length by omega]
    simp [upF]
  | d + 1, a, nx, hd, ha, hx => by
    have hlt : a < L.length := by omega
    have hg : L.getD a [] = L[a] := by rw [List.getD_eq_getElem?_getD, List.getElem?_eq_getElem hlt]; rfl
    have h256 := getD_each hE hlt
    have hrep : List.replicate (L.length - a) zblk = zblk :: List.replicate (L.length - (a + 1)) zblk := by
      rw [show L.length - a = (L.length - (a + 1)) + 1 by omega, List.replicate_succ]
    have ih := upF_pack hE hn d (a + 1)
    rw [usedFrom_step L hlt]
    by_cases hz : zeroB (L.getD a []) = true
    · rw [if_pos hz]
      have hb := zero_all hz h256
      have := ih nx (by omega) (by omega) (by omega)
      rw [List.take_add_one, List.getElem?_eq_getElem hlt, ← hg, hb] at this
      rw [hrep]
      simpa using this
    · rw [if_neg hz, List.flatMap_cons, List.length_cons]
      obtain ⟨s1, s2⟩ := sq_small h256
      obtain ⟨p1, p2, p3, p4⟩ := piece_parts L a (by omega) s1 ((usedFrom L (a + 1)).flatMap (pieceB L))
      have hc : cU (pieceB L a ++ (usedFrom L (a + 1)).flatMap (pieceB L)) = L.getD a [] := by unfold cU; rw [p3, s2]
      have hML : (L.take a ++ List.replicate (L.length - a) zblk).length = L.length := by simp; omega
      have h0 : stE (L.take a ++ List.replicate (L.length - a) zblk).length (pieceB L a ++ (usedFrom L (a + 1)).flatMap (pieceB L)) nx = 0 := by
        unfold stE
        rw [hML, p1, p2, p3, hc, if_neg (by rw [List.length_append, piece_len]; omega), if_neg (by omega), if_neg (by omega), s2, if_pos rfl, if_pos ⟨h256, by simpa using hz, rfl⟩]
      unfold upF
      rw [if_pos h0, p4, p1, hc]
      have := ih (a + 1) (by omega) (by omega) (Nat.le_refl _)
      rw [List.take_add_one, List.getElem?_eq_getElem hlt] at this
      have hta : (L.take a).length = a := by rw [List.length_take]; omega
      rw [hrep, List.set_append, if_neg (by omega), hta, Nat.sub_self, List.set_cons_zero, hg]
      rw [List.append_assoc] at this
      exact this
/-- what was read is what would be written -/
theorem upF_back : ∀ (n : Nat) (r : List UInt8) (nx : Nat) (L out : List (List UInt8)), Each L → L.length ≤ 14400 → nx ≤ L.length → (∀ i, nx ≤ i → i < L.length → zeroB (L.getD i []) = true) → upF n r nx L = (out, 0) →
    Each out ∧ out.length = L.length ∧ (∀ i, i < nx → out.getD i [] = L.getD i []) ∧ (usedFrom out nx).length = n ∧ r = (usedFrom out nx).flatMap (pieceB out)
  | 0, r, nx, L, out, hE, hn, hx, hz, h => by
    unfold upF at h
    split at h
    · rename_i hr
      obtain rfl : L = out := by injection h
      have hu : usedFrom L nx = [] := by rw [usedFrom_skip L _ nx L.length rfl hx (Nat.le_refl _) hz, usedFrom_end L (Nat.le_refl _)]
      exact ⟨hE, rfl, fun _ _ => rfl, by rw [hu]; rfl, by rw [hu, hr]; rfl⟩
    · injection h with _ h; cases h
  | n + 1, r, nx, L, out, hE, hn, hx, hz, h => by
    unfold upF at h
    split at h
    · rename_i h0
      obtain ⟨z1, z2, z3, z4, z5, z6, z7⟩ := stE_zero h0
      have hE2 : Each (L.set (noU r) (cU r)) := each_set hE _ _ z5
      have hg : ∀ i, i ≠ noU r → (L.set (noU r) (cU r)).getD i [] = L.getD i [] := fun i hi => by
        rw [List.getD_eq_getElem?_getD, List.getD_eq_getElem?_getD, List.getElem?_set_ne (fun e => hi e.symm)]
      obtain ⟨b1, b2, b3, b4, b5⟩ := upF_back n _ (noU r + 1) _ out hE2 (by simpa using hn) (by simp; omega) (fun i hi hl => by
        rw [hg i (by omega)]
        exact hz i (by omega) (by simpa using hl)) h
      rw [List.length_set] at b2
      have hno : out.getD (noU r) [] = cU r := by
        rw [b3 _ (by omega), List.getD_eq_getElem?_getD, List.getElem?_set_self z2]
        rfl
      have hu : usedFrom out nx = noU r :: usedFrom out (noU r + 1) := by
        rw [usedFrom_skip out _ nx (noU r) rfl z3 (by omega) (fun i h1 h2 => by rw [b3 i (by omega), hg i (by omega)]; exact hz i h1 (by omega)), usedFrom_step out (by omega), hno, z6, if_neg (by decide)]
      refine ⟨b1, b2, fun i hi => by rw [b3 i (by omega), hg i (by omega)], by rw [hu, List.length_cons, b4], ?_⟩
      rw [hu, List.flatMap_cons, ← b5]
      have hp : pieceB out (noU r) = r.take (6 + kU r) := by
        unfold pieceB
        have hsl : (sU r).length = kU r := by unfold sU; rw [List.length_take, List.length_drop]; omega
        rw [hno, z7, hsl]
        have h4 : leb 4 (noU r) = r.take 4 := by
          have := leb_le (r.take 4)
          rw [List.length_take, Nat.min_eq_left (by omega)] at this
          exact this
        have h2 : leb 2 (kU r) = (r.drop 4).take 2 := by
          have := leb_le ((r.drop 4).take 2)
          rw [List.length_take, List.length_drop, Nat.min_eq_left (by omega)] at this
          exact this
        rw [h4, h2, List.take_add, show (6 : Nat) = 4 + 2 from rfl, List.take_add]
        rfl
      rw [hp, List.take_append_drop]
    · rename_i h0
      injection h with _ h; exact absurd h h0
theorem each_rep (n : Nat) : Each (List.replicate n zblk) := fun l hl => by rw [List.eq_of_mem_replicate hl]; exact List.length_replicate
theorem head_len (L : List (List UInt8)) : (headB L).length = 16 := by simp [headB, magicB, leb_len]
theorem usedL_le (L : List (List UInt8)) : (usedL L).length ≤ L.length := usedN_len L _
theorem bodyB_all (L : List (List UInt8)) : bodyB L (usedL L).length = (usedL L).flatMap (pieceB L) := by unfold bodyB; rw [List.take_length]
theorem pk_take (L : List (List UInt8)) : (pkB L).take ((pkB L).length - 4) = headB L ++ bodyB L (usedL L).length := by
  unfold pkB
  rw [sumB_len, Nat.add_sub_cancel]
  unfold sumB
  rw [List.take_left']
  rfl
/-- what was packed is unpacked -/
theorem up_pack {L : List (List UInt8)} (hE : Each L) (hn : L.length ≤ 14400) : upE (pkB L) = (L, 0) := by
  have hl : (pkB L).length = (headB L ++ bodyB L (usedL L).length).length + 4 := sumB_len _
  unfold upE
  rw [if_neg (by rw [hl, List.length_append, head_len]; omega), pk_take, if_neg (by simp [pkB])]
  unfold upI
  have hm : (headB L).take 8 = magicB := by
    unfold headB
    rw [List.take_append_of_le_length (by decide)]
    rfl
  have h8 : (headB L).drop 8 = leb 4 L.length ++ leb 4 (usedL L).length := by
    unfold headB
    rw [List.drop_append_of_le_length (by decide)]
    rfl
  have h4 : (leb 4 L.length).length = 4 := leb_len _ _
  have h12 : (headB L).drop 12 = leb 4 (usedL L).length := by
    rw [show (12 : Nat) = 8 + 4 from rfl, ← List.drop_drop, h8, List.drop_append_of_le_length (by omega), List.drop_of_length_le (by omega), List.nil_append]
  have e1 : (headB L ++ bodyB L (usedL L).length).take 8 = magicB := by rw [List.take_append_of_le_length (by rw [head_len]; omega), hm]
  have e2 : le (((headB L ++ bodyB L (usedL L).length).drop 8).take 4) = L.length := by
    rw [List.drop_append_of_le_length (by rw [head_len]; omega), h8, List.append_assoc, List.take_append_of_le_length (by omega), List.take_of_length_le (by omega)]
    exact le_leb 4 _ (by omega)
  have e3 : le (((headB L ++ bodyB L (usedL L).length).drop 12).take 4) = (usedL L).length := by
    rw [List.drop_append_of_le_length (by rw [head_len]; omega), h12, List.take_append_of_le_length (by rw [leb_len]; omega), List.take_of_length_le (by rw [leb_len]; omega)]
    exact le_leb 4 _ (by have := usedL_le L; omega)
  have e4 : (headB L ++ bodyB L (usedL L).length).drop 16 = bodyB L (usedL L).length := by
    rw [List.drop_append_of_le_length (by rw [head_len]; omega), List.drop_of_length_le (by rw [head_len]; omega), List.nil_append]
  rw [e1, e2, e3, e4, if_neg (by simp), if_neg (by omega), bodyB_all, used_from]
  exact upF_pack hE hn _ 0 0 rfl (by omega) (by omega)
/-- what was unpacked is packed to the same bytes -/
theorem pack_up {b : List UInt8} {L : List (List UInt8)} (h : upE b = (L, 0)) : pkB L = b ∧ Each L ∧ L.length ≤ 14400 := by
  unfold upE at h
  split at h
  · injection h with _ h; cases h
  split at h
  · injection h with _ h; cases h
  rename_i h20 hsum
  have hsum : sumB (b.take (b.length - 4)) = b := Classical.not_not.1 hsum
  have hil : (b.take (b.length - 4)).length = b.length - 4 := by rw [List.length_take]; omega
  generalize b.take (b.length - 4) = inn at *
  unfold upI at h
  split at h
  · injection h with _ h; cases h
  split at h
  · injection h with _ h; cases h
  rename_i hm hnb
  have hm : inn.take 8 = magicB := Classical.not_not.1 hm
  obtain ⟨b1, b2, b3, b4, b5⟩ := upF_back _ _ 0 _ L (each_rep _) (by simp; omega) (by omega) (fun i _ hi => by
    rw [List.length_replicate] at hi
    rw [List.getD_eq_getElem?_getD, List.getElem?_replicate, if_pos hi]
    exact zero_zblk) h
  rw [List.length_replicate] at b2
  rw [← used_from] at b4 b5
  refine ⟨?_, b1, by omega⟩
  unfold pkB
  rw [← hsum]
  congr 1
  rw [bodyB_all, ← b5]
  unfold headB
  have h4 : leb 4 L.length = (inn.drop 8).take 4 := by
    have := leb_le ((inn.drop 8).take 4)
    rw [List.length_take, List.length_drop, Nat.min_eq_left (by omega)] at this
    rw [b2]; exact this
  have h5 : leb 4 (usedL L).length = (inn.drop 12).take 4 := by
    have := leb_le ((inn.drop 12).take 4)
    rw [List.length_take, List.length_drop, Nat.min_eq_left (by omega)] at this
    rw [b4]; exact this
  rw [h4, h5, ← hm]
  have e1 : (inn.drop 12).take 4 ++ inn.drop 16 = inn.drop 12 := by rw [show (16 : Nat) = 12 + 4 from rfl, ← List.drop_drop, List.take_append_drop]
  have e2 : (inn.drop 8).take 4 ++ inn.drop 12 = inn.drop 8 := by rw [show (12 : Nat) = 8 + 4 from rfl, ← List.drop_drop, List.take_append_drop]
  rw [List.append_assoc, List.append_assoc, e1, e2, List.take_append_drop]
theorem crcR_append (r : Nat) (a b : List UInt8) : crcR r (a ++ b) = crcR (crcR r a) b := by unfold crcR; rw [List.foldl_append]
/-- the sum of bytes with their sum is always that one -/
theorem sum_whole (b : List UInt8) : crcM 0 (sumB b) = stN 32 4294967295 ^^^ 4294967295 := by
  have hx : crcM 0 b < 4294967296 := crcM_lt 0 (by omega) b
  have e : crcM 0 b = crcR (0 ^^^ 4294967295) b ^^^ 4294967295 := rfl
  have e2 : crcM 0 (sumB b) = crcR (0 ^^^ 4294967295) (sumB b) ^^^ 4294967295 := rfl
  rw [e2]
  unfold sumB
  rw [crcR_append, crcR_le (leb 4 (crcM 0 b)), leb_len, le_leb 4 _ (by omega), e, ← Nat.xor_assoc, Nat.xor_self, Nat.zero_xor]
/-- bits turned within 32 in a row are told -/
theorem sum_burst (a c : List UInt8) (at_ m : Nat) (hl : c.length = (sumB a).length) (ha : at_ ≤ 8 * (sumB a).length) (hm : m < 4294967296) (h : le c = le (sumB a) ^^^ (2 ^ at_ * m)) :
    sumB (c.take (c.length - 4)) = c ↔ m = 0 := by
  have hb := crc_burst (sumB a) c at_ m hl ha hm h
  constructor
  · intro e
    apply hb.1
    rw [← e, sum_whole, sum_whole]
  · rintro rfl
    rw [Nat.mul_zero, Nat.xor_zero] at h
    have hc : c = sumB a := by rw [← leb_le c, ← leb_le (sumB a), h, hl]
    rw [hc, sumB_len, Nat.add_sub_cancel]
    congr 1
    unfold sumB
    rw [List.take_left']
    rfl
theorem up_burst {L : List (List UInt8)} (hE : Each L) (hn : L.length ≤ 14400) (c : List UInt8) (at_ m : Nat) (hl : c.length = (pkB L).length) (ha : at_ ≤ 8 * (pkB L).length) (hm : m < 4294967296) (h : le c = le (pkB L) ^^^ (2 ^ at_ * m)) :
    (upE c).2 = if m = 0 then 0 else 4 := by
  have hs := sum_burst _ c at_ m hl ha hm h
  by_cases h0 : m = 0
  · subst h0
    rw [Nat.mul_zero, Nat.xor_zero] at h
    have hc : c = pkB L := by rw [← leb_le c, ← leb_le (pkB L), h, hl]
    rw [hc, up_pack hE hn, if_pos rfl]
  · rw [if_neg h0]
    unfold upE
    have : (pkB L).length = (headB L ++ bodyB L (usedL L).length).length + 4 := sumB_len _
    rw [if_neg (by rw [hl, this, List.length_append, head_len]; omega), if_pos (fun e => h0 (hs.1 e))]
end Go.Proofs.Ytcnalndhlonblaa
