/-
  Chapter 21: the reference's Join, walked.
-/
import Derived.Test.YtcnalndhlonblaaTly9
import Derived.Test.YtcnalndhlonblaaTlyP4
import Derived.Test.YtcnalndhlonblaaVal8
import Derived.Laws.OwnMore
namespace Go.Proofs.Ytcnalndhlonblaa
open Go.RowKit
theorem gives_none11 {xs : List Value} {er er' : Int} (hx : xs = []) (he : er = er') {w w' : World} {t : TypeId} (hb : Below w.heap.size w w') : GivesE t xs er w (.returned (.tuple #[.slice none 0 0, .int .i64 er'])) w' := by
  subst hx he
  exact ⟨none, 0, rfl, World.ownsRow_nil _ _ _ _, hb⟩
theorem iv_one11 (l : List Int) : ∀ u ∈ iv l, u.oneCell' = true := by
  intro u hu
  simp [iv] at hu
  obtain ⟨x, _, rfl⟩ := hu
  rfl
theorem lastK_low {b : List Int} {over : List EntL} {k : Nat} (h : errJ b over k = 0) : -1 ≤ lastK over k := by
  cases k with
  | zero => exact Int.le_refl _
  | succ k =>
    obtain ⟨_, h1⟩ := errJ_back h
    obtain ⟨_, h3, _⟩ := entE_zero h1
    obtain ⟨q, _, hq, _⟩ := openL_mem.1 h3
    show -1 ≤ keyA over k
    omega
set_option maxRecDepth 100000 in
set_option maxHeartbeats 8000000 in
theorem rjoin_any (A : Option Addr) (c : Nat) (bits : List (List Int)) (A2 : Option Addr) (c2 : Nat) (over : List EntL) (hm : bits.length ≤ 100000) (hl : ∀ l ∈ bits, l.length ≤ 20000000000000) (hf : bits.flatten.length ≤ 100000) (ho : over.length ≤ 100000)
    (hk : ∀ k, k < over.length → (valA over k).length ≤ reachBytes) (w : World) (hr : Lists w w.heap.size A bits) (he : Ents w w.heap.size A2 over) :
    Calls Try.prog 17 #[.slice A bits.length c, .slice A2 over.length c2] w (GivesE 3 (iv (joinV bits over)) (joinE bits over) w) := by
  obtain ⟨ji, ji0, ji1, ji2, ji3⟩ := info_parts Try.infoInt21
  have KF := rform21_any A c bits w _ hm hl hr
  have HR := Lib.hid hr
  have HE := Lib.hid he
  have HK := Lib.hid hk
  have hmi : (bits.length : Int) ≤ 100000 := by omega
  have hoi : (over.length : Int) ≤ 100000 := by omega
  have HFL := Lib.hid (fun (k : Nat) => (show ((bits.take k).flatten).length ≤ 100000 from by
    have : ((bits.take k).flatten).length + ((bits.drop k).flatten).length = bits.flatten.length := by rw [← List.length_append, ← List.flatten_append, List.take_append_drop]
    omega))
  clear hr he hk hl
  go_enter Try.func17, Try.ntmps17
  go_wp2_with fail
  refine KF.mono ?_
  rintro e w1 ⟨rfl, rfl⟩
  clear KF
  cases hfm : formB bits with
  | false =>
    have HJ := Lib.hid (join_form (over := over) hfm)
    clear hfm
    go_wp2
    go_ret2
    exact gives_none11 (by rw [HJ.out.2]; rfl) HJ.out.1 (Below.refl _ _)
  | true =>
    have HFM := Lib.hid hfm
    clear hfm
    go_wp2_with fail
    go_loopw [6, 7] (fun s6 s7 wr => ∃ (k N : Nat) (A5 : Option Addr) (c5 : Nat), k ≤ bits.length ∧ s6 = .slice A5 N c5 ∧ s7 = .int .i64 k ∧ N ≤ 100000 ∧ Hid (N = ((bits.take k).flatten).length) ∧ Hid (wr.ownsRow w.heap.size 3 1 (.slice A5 N c5) N (iv (bits.take k).flatten)) ∧ Hid (Below w.heap.size w wr)) (fun _ s7 _ => bits.length - (intOf s7).toNat)
    case atStart => exact ⟨0, 0, none, 0, by omega, rfl, rfl, by omega, Lib.hid rfl, Lib.hid (World.ownsRow_nil _ _ _ _), Lib.hid (Below.refl _ _)⟩
    case round =>
      obtain ⟨k, N, A5, c5, hk, rfl, rfl, hN5, HN, HO, HB⟩ := hrel
      by_cases hlt : k < bits.length
      · have hci : (k : Int) < (bits.length : Int) := by omega
        obtain ⟨ad, rfl, hadl, hc0⟩ := HR.out (by omega)
        obtain ⟨Aj, cj, q0, r1⟩ := hc0 k _ (List.getElem?_eq_getElem hlt)
        have q1 := (HB.out.cell (p := ad.add k) (by rw [block_add]; exact hadl)).trans q0
        have hgl : bits[k] = bits.getD k [] := by rw [List.getD_eq_getElem?_getD, List.getElem?_eq_getElem hlt]; rfl
        rw [hgl] at q1 r1
        have hr1 := r1.below HB.out
        have HFN := Lib.hid (flat_next hlt)
        have HFL1 := Lib.hid (HFL.out (k + 1))
        clear hc0 hgl q0 hadl r1
        generalize bits.getD k [] = l at *
        have hNl : N + l.length ≤ 100000 := by have := HFL1.out; rw [HFN.out, List.length_append, ← HN.out] at this; exact this
        have ho := HO.out
        have hsB := HB.out.size
        go_wp2_with (at_builtin; refine wpList_append_to _ rfl (.tmp 25) (.tmp 29) _ rfl w.heap.size 3 ji _ 8 Try.underlying22 ji0 ji1 ji2 ji3 rfl _ N (iv (bits.take k).flatten) rfl ho _ _ l.length cj (iv l) rfl (iv_len l).symm hr1 (iv_one11 l) (by simp only [maxLen]; omega) (by omega) hsB ?_; intro A7 c7 w7 hown7 hg7 hb7 _; have HB7 := Lib.hid (HB.out.trans hb7); have HO7 : Hid (w7.ownsRow w.heap.size 3 1 (.slice A7 (N + l.length) c7) (N + l.length) (iv (bits.take (k + 1)).flatten)) := (by rw [HFN.out, iv_append]; exact Lib.hid hown7); clear hown7 hg7 hb7 ho hr1)
        go_roundw
        case rel => exact ⟨k + 1, N + l.length, A7, c7, by omega, rfl, by go_num, hNl, Lib.hid (by rw [HFN.out, List.length_append, ← HN.out]), HO7, HB7⟩
        case measure => simp [intOf]; omega
      · obtain rfl : k = bits.length := by omega
        rw [List.take_length] at HN HO
        have HN0 := HN
        clear hlt hk HFL HR HN hf
        have HBX := Lib.hid (HB.out)
        rename World => wl
        go_wp2_with fail
        go_loopw [8] (fun s8 wq => ∃ k : Nat, k ≤ over.length ∧ s8 = .int .i64 k ∧ Hid (errJ bits.flatten over k = 0) ∧ Hid (Below wl.heap.size wl wq)) (fun s8 _ => over.length - (intOf s8).toNat)
        case atStart => exact ⟨0, by omega, rfl, Lib.hid rfl, Lib.hid (Below.refl _ _)⟩
        case round =>
          obtain ⟨k, hk, rfl, HER, HBq⟩ := hrel
          have HBw := Lib.hid (HBX.out.trans (HBq.out.mono HBX.out.size))
          have HOq := Lib.hid (own_keep HO.out HBq.out)
          by_cases hlt : k < over.length
          · have hci : (k : Int) < (over.length : Int) := by omega
            obtain ⟨bb, oo, rfl, -, hc⟩ := (HE.out.below HBw.out) (by omega)
            obtain ⟨e0, e1, -⟩ := hc k _ (ent_at9 hlt)
            have HST := Lib.hid (fun er h h2 => join_stop (er := er) HFM.out hlt HER.out h h2)
            have HNX := Lib.hid (fun h => errJ_next HER.out h)
            have HRC := Lib.hid (fun (V : World) => rreadCount_any (valA over k) V (HK.out k hlt))
            have HEE := Lib.hid (show entE bits.flatten (lastK over k) (keyA over k) (valA over k) = if keyA over k ≤ lastK over k then 8 else if keyA over k ∈ openL bits.flatten then rdE [countP] (valA over k) else 13 from rfl)
            have hlow := lastK_low HER.out
            have HPV := Lib.hid (show ∀ j, k = j + 1 → lastK over k = keyA over j ∧ wr.cell? ⟨bb, oo + j * 3, none⟩ = some (.int .i64 (keyA over j)) from fun j hj => ⟨by rw [hj]; rfl, (hc j _ (ent_at9 (by omega))).1⟩)
            have HL0 := Lib.hid (show k = 0 → lastK over k = -1 from fun h => by rw [h]; rfl)
            clear hc HER
            generalize entE bits.flatten (lastK over k) (keyA over k) (valA over k) = ee at *
            generalize lastK over k = lk at *
            generalize keyA over k = key at *
            generalize valA over k = val at *
            by_cases g1 : key ≤ lk
            · have HJ := Lib.hid (HST.out 8 (by rw [HEE.out, if_pos g1]) (by decide))
              clear HST HNX HEE
              by_cases g2 : key < 0
              · clear g1 hlow HPV HL0
                go_wp2
                go_ret2
                exact gives_none11 (by rw [HJ.out.2]; rfl) HJ.out.1 HBw.out
              · obtain ⟨j, hj⟩ : ∃ j, k = j + 1 := ⟨k - 1, by
                  rcases Nat.eq_zero_or_pos k with h | h
                  · have := HL0.out h; omega
                  · omega⟩
                obtain ⟨hlk, hp⟩ := HPV.out j hj
                have hle : key ≤ keyA over j := by rw [← hlk]; exact g1
                have d1 : decide (key < 0) = false := decide_eq_false g2
                have d2 : (0 : Int) < (k : Int) := by omega
                have i5 : IntKind.i64.wrap ((k : Int) - 1) = (j : Int) := by rw [IntKind.wrap_i64]; omega
                have i6 : (j : Int) < (over.length : Int) := by omega
                have i7 : j < over.length := by omega
                clear g1 g2 hlow HPV HL0 hlk hj
                generalize keyA over j = xp at *
                go_wp2
                go_ret2
                exact gives_none11 (by rw [HJ.out.2]; rfl) HJ.out.1 HBw.out
            have HEE2 := Lib.hid (show ee = if key ∈ openL bits.flatten then rdE [countP] val else 13 from by rw [HEE.out, if_neg g1])
            obtain ⟨p, rfl⟩ : ∃ p : Nat, key = (p : Int) := ⟨key.toNat, by omega⟩
            have HG1 := Lib.hid g1
            clear HEE hlow
            go_upto_region 12 with fail
            go_cut [57] (fun s57 wx => s57 = .bool false ∧ wx = wr)
            case first =>
              have d1 : decide ((p : Int) < 0) = false := decide_eq_false (by omega)
              by_cases h0 : k = 0
              · subst h0
                clear HPV HL0 HST HNX HEE2 g1
                go_wp2
                go_meet
                exact ⟨rfl, rfl⟩
              · obtain ⟨j, hj⟩ : ∃ j, k = j + 1 := ⟨k - 1, by omega⟩
                obtain ⟨hlk, hp⟩ := HPV.out j hj
                have hle : ¬ (p : Int) ≤ keyA over j := by rw [← hlk]; exact g1
                have d2 : (0 : Int) < (k : Int) := by omega
                have i5 : IntKind.i64.wrap ((k : Int) - 1) = (j : Int) := by rw [IntKind.wrap_i64]; omega
                have i6 : (j : Int) < (over.length : Int) := by omega
                have i7 : j < over.length := by omega
                have hle2 : decide ((p : Int) ≤ keyA over j) = false := decide_eq_false hle
                clear g1 HPV HL0 hlk hj HST HNX HEE2
                generalize keyA over j = xp at *
                go_wp2
                go_meet
                exact ⟨rfl, rfl⟩
            case rest =>
              obtain ⟨rfl, rfl⟩ := hcut
              clear HPV HL0 g1 HG1
              have HNN := Lib.hid (show bits.flatten.length = N from HN0.out.symm)
              by_cases g2 : p < N
              case neg =>
                have HJ := Lib.hid (HST.out 13 (by
                  rw [HEE2.out, if_neg]
                  intro h
                  obtain ⟨q, hq, e, _⟩ := openL_mem.1 h
                  rw [HNN.out] at hq
                  omega) (by decide))
                have i1 : (N : Int) ≤ (p : Int) := by omega
                have i2 : N ≤ p := by omega
                clear HST HNX HEE2 g2
                go_wp2
                go_ret2
                exact gives_none11 (by rw [HJ.out.2]; rfl) HJ.out.1 HBw.out
              obtain ⟨g, rfl, hcg⟩ := own_cells HOq.out (by omega)
              have hcp := hcg p (.int .i64 (bits.flatten.getD p 0)) (by rw [List.getElem?_eq_getElem (by rw [iv_len, HNN.out]; exact g2), iv_at (by rw [HNN.out]; exact g2)])
              have HIN := Lib.hid (show (p : Int) ∈ openL bits.flatten ↔ bits.flatten.getD p 0 = 3 from by
                rw [openL_mem]
                constructor
                · rintro ⟨q, _, e, h⟩
                  obtain rfl : p = q := by omega
                  exact h
                · intro h
                  exact ⟨p, by rw [HNN.out]; exact g2, rfl, h⟩)
              generalize bits.flatten.getD p 0 = y at *
              have i1 : decide (N ≤ p) = false := decide_eq_false (by omega)
              have i2 : (p : Int) < (N : Int) := by omega
              clear hcg
              by_cases g3 : y = 3
              case neg =>
                have HJ := Lib.hid (HST.out 13 (by rw [HEE2.out, if_neg (fun h => g3 (HIN.out.1 h))]) (by decide))
                have d3 : (y != 3) = true := by rw [bne_iff_ne]; exact g3
                clear HST HNX HEE2 g3 HIN
                go_wp2
                go_ret2
                exact gives_none11 (by rw [HJ.out.2]; rfl) HJ.out.1 HBw.out
              subst g3
              have HEE3 := Lib.hid (show ee = rdE [countP] val from by rw [HEE2.out, if_pos (HIN.out.2 rfl)])
              clear HEE2 HIN
              go_wp2_with fail
              refine (HRC.out _).mono ?_
              rintro e w3 ⟨rfl, hb3⟩
              have HB3 := Lib.hid (below_then HBw.out hb3)
              have HBl := Lib.hid (HBq.out.trans (hb3.mono HBq.out.size))
              clear HRC hb3 e0 e1 hcp
              by_cases g4 : rdE [countP] val = 0
              case neg =>
                have HJ := Lib.hid (HST.out _ HEE3.out g4)
                have d3 : (rdE [countP] val != 0) = true := by rw [bne_iff_ne]; exact g4
                clear HST HNX HEE3
                generalize rdE [countP] val = er at *
                clear g4
                go_wp2
                go_ret2
                exact gives_none11 (by rw [HJ.out.2]; rfl) HJ.out.1 HB3.out
              have HER1 := Lib.hid (HNX.out (by rw [HEE3.out]; exact g4))
              rw [g4]
              clear HST HNX HEE3 g4
              go_wp2
              go_roundw
              case rel => exact ⟨k + 1, by omega, by go_num, HER1, HBl⟩
              case measure => simp [intOf]; omega
          · obtain rfl : k = over.length := by omega
            have HLO := Lib.hid (outJ_len bits.flatten over over.length)
            have HOM : Hid (wr.ownsRow w.heap.size 3 1 (.slice A5 N c5) N (iv (mixJ (outJ bits.flatten over over.length) bits.flatten 0))) := HOq
            have HKY := Lib.hid (fun (i p : Nat) (hi : i < over.length) (hp : p < bits.flatten.length) (h : keyA over i = (p : Int)) => outJ_key hp HER.out hi h)
            have HOT := Lib.hid (fun (p : Nat) (h : ∀ i, i < over.length → keyA over i ≠ (p : Int)) => outJ_other HER.out h)
            have HHO := Lib.hid (fun (p : Nat) (hp : p < bits.flatten.length) h3 hn => join_hole HFM.out HER.out (p := p) hp h3 hn)
            have HFU := Lib.hid (fun h => join_full HFM.out HER.out h)
            have HKO := Lib.hid (fun (i : Nat) (hi : i < over.length) => (errJ_at HER.out i hi).2.2.1)
            clear hlt hk HER HOq HBq HBX HO
            rename World => wm
            generalize outJ bits.flatten over over.length = O at *
            go_wp2_with fail
            have HNN := Lib.hid (show bits.flatten.length = N from HN0.out.symm)
            clear HN0
            go_loopw [12] (fun s12 wq => ∃ k : Nat, k ≤ N ∧ s12 = .int .i64 k ∧ Hid (wq.ownsRow w.heap.size 3 1 (.slice A5 N c5) N (iv (mixJ O bits.flatten k))) ∧ Hid (∀ p, p < k → bits.flatten.getD p 0 = 3 → ∃ i, i < over.length ∧ keyA over i = (p : Int)) ∧ Hid (Below w.heap.size w wq)) (fun s12 _ => N - (intOf s12).toNat)
            case atStart => exact ⟨0, by omega, rfl, HOM, Lib.hid (fun p hp => by omega), HBw⟩
            case round =>
              clear HOM HBw
              obtain ⟨k, hk, rfl, HO, HP, HB⟩ := hrel
              by_cases hlt : k < N
              · have hci : (k : Int) < (N : Int) := by omega
                obtain ⟨g, rfl, hcg⟩ := own_cells HO.out (by omega)
                have hlen : O.length = bits.flatten.length := HLO.out
                have hkb : k < bits.flatten.length := by rw [HNN.out]; exact hlt
                have hcell := hcg k (.int .i64 (bits.flatten.getD k 0)) (by
                  rw [List.getElem?_eq_getElem (by rw [iv_len, mixJ_len hlen (by omega)]; exact hkb), iv_at (by rw [mixJ_len hlen (by omega)]; exact hkb), mixJ_at hlen hkb])
                have hfz := HO.out.frozenAt k
                have HST := Lib.hid (fun (y : Int) => HO.out.stored k (.int .i64 y))
                have HSM := Lib.hid (fun h => mixJ_same hlen hkb h)
                have HSE := Lib.hid (mixJ_set hlen hkb)
                have HO3 := Lib.hid (show bits.flatten.getD k 0 ≠ 3 → O.getD k 0 = bits.flatten.getD k 0 from fun h => HOT.out k (fun i hi e => by
                  obtain ⟨q, _, e2, h3⟩ := openL_mem.1 (HKO.out i hi)
                  obtain rfl : q = k := by omega
                  exact h h3))
                have HHK := Lib.hid (fun h3 hn => HHO.out k hkb h3 hn)
                have HPN := Lib.hid (fun (h : bits.flatten.getD k 0 = 3 → ∃ i, i < over.length ∧ keyA over i = (k : Int)) (p : Nat) (hp : p < k + 1) (h3 : bits.flatten.getD p 0 = 3) => (show ∃ i, i < over.length ∧ keyA over i = (p : Int) from by
                  rcases Nat.lt_or_ge p k with h2 | h2
                  · exact HP.out p h2 h3
                  · obtain rfl : p = k := by omega
                    exact h h3))
                have HKK := Lib.hid (fun i hi h => HKY.out i k hi hkb h)
                clear hcg HP hlen hkb
                by_cases h3 : bits.flatten.getD k 0 = 3
                case neg =>
                  have HO4 := Lib.hid (show wr.ownsRow w.heap.size 3 1 (.slice (some ⟨g, 0, none⟩) N c5) N (iv (mixJ O bits.flatten (k + 1))) from by rw [← HSM.out (HO3.out h3)]; exact HO.out)
                  have HP4 := Lib.hid (HPN.out (fun h => absurd h h3))
                  have d3 : (bits.flatten.getD k 0 != 3) = true := by rw [bne_iff_ne]; exact h3
                  clear HO HST HSM HSE HO3 HHK HPN HKK h3
                  generalize bits.flatten.getD k 0 = y at *
                  go_wp2
                  go_roundw
                  case rel => exact ⟨k + 1, by omega, by go_num, HO4, HP4, HB⟩
                  case measure => simp [intOf]; omega
                have KF := find_any A2 c2 over (k : Int) wr _ ho (HE.out.below HB.out)
                rw [h3] at hcell
                have H3 := Lib.hid h3
                clear h3 HO3 HSM
                go_wp2_with fail
                refine KF.mono ?_
                rintro e w5 ⟨⟨r, rfl, HFD⟩, rfl⟩
                clear KF
                rcases HFD.out with ⟨rfl, hn⟩ | ⟨i, rfl, hi, hki⟩
                · have HJ := Lib.hid (HHK.out H3.out hn)
                  clear hn HHK HPN HKK HFD
                  go_wp2
                  go_ret2
                  exact gives_none11 (by rw [HJ.out.2]; rfl) HJ.out.1 HB.out
                · obtain ⟨bb, oo, rfl, -, hc⟩ := (HE.out.below HB.out) (by omega)
                  obtain ⟨-, e1, -⟩ := hc i _ (ent_at9 hi)
                  have hRC := rreadCount_any (valA over i) wr (HK.out i hi)
                  have HOK := Lib.hid (show rd1 countP (valA over i) = O.getD k 0 from (HKK.out i hi hki).symm)
                  have HP4 := Lib.hid (HPN.out (fun _ => ⟨i, hi, hki⟩))
                  have d0 : decide ((i : Int) < 0) = false := decide_eq_false (by omega)
                  have j1 : (i : Int) < (over.length : Int) := by omega
                  clear hc HHK HPN HKK HFD hki
                  generalize valA over i = val at *
                  go_wp2_with fail
                  refine hRC.mono ?_
                  rintro e w6 ⟨rfl, hb6⟩
                  have HO6 := Lib.hid (own_keep HO.out hb6)
                  have HB6 := Lib.hid (below_then HB.out hb6)
                  have hcell6 := HO6.out.cellAt k (by omega)
                  rw [show (iv (mixJ O bits.flatten k))[k]? = some (.int .i64 3) from by
                    have := HO.out.cellAt k (by omega)
                    rw [hcell] at this
                    exact this.symm] at hcell6
                  have hfz6 := HO6.out.frozenAt k
                  obtain ⟨s1, s2⟩ := HO6.out.stored k (.int .i64 (O.getD k 0))
                  have HO7 := Lib.hid (show (w6.setCell ⟨g, k, none⟩ (.int .i64 (O.getD k 0))).ownsRow w.heap.size 3 1 (.slice (some ⟨g, 0, none⟩) N c5) N (iv (mixJ O bits.flatten (k + 1))) from by
                    rw [← HSE.out]
                    have : (iv (mixJ O bits.flatten k)).set k (.int .i64 (O.getD k 0)) = iv ((mixJ O bits.flatten k).set k (O.getD k 0)) := by simp [iv, List.map_set]
                    rw [← this]
                    exact s1)
                  have HB7 := Lib.hid (HB6.out.grown s2 HB6.out.size (fun q hq => by cases hq; exact (HO6.out.lt g rfl).1))
                  rw [HOK.out]
                  clear hRC hb6 hcell hfz s1 s2 HO6 HO HST HSE e1
                  generalize O.getD k 0 = y at *
                  go_wp2
                  go_roundw
                  case rel => exact ⟨k + 1, by omega, by go_num, HO7, HP4, HB7⟩
                  case measure => simp [intOf]; omega
              · obtain rfl : k = N := by omega
                have HJ := Lib.hid (HFU.out (fun p hp h3 => HP.out p (by rw [HNN.out] at hp; exact hp) h3))
                have HOE := Lib.hid (show k = O.length from by rw [HLO.out]; exact HNN.out.symm)
                have HO9 := Lib.hid (show wr.ownsRow w.heap.size 3 1 (.slice A5 k c5) k (iv O) from by
                  have h1 := mixJ_end (O := O) (b := bits.flatten) HLO.out
                  rw [HNN.out] at h1
                  have h2 := HO.out
                  rw [h1] at h2
                  exact h2)
                clear hlt hk HP HO
                go_wp2
                go_ret2
                refine ⟨A5, c5, ?_, ?_, HB.out⟩
                · rw [HJ.out.1, HJ.out.2, iv_len, ← HOE.out]; rfl
                · rw [HJ.out.2, iv_len, ← HOE.out]; exact HO9.out
end Go.Proofs.Ytcnalndhlonblaa
