/-
  Chapter 21: TallyBack, walked.
-/
import Derived.Test.YtcnalndhlonblaaLaw21
import Derived.Test.YtcnalndhlonblaaTly8
import Derived.Test.YtcnalndhlonblaaTly10
import Derived.Test.YtcnalndhlonblaaSame
import Derived.Test.YtcnalndhlonblaaOpen5
import Derived.Test.YtcnalndhlonblaaTlyP5
namespace Go.Proofs.Ytcnalndhlonblaa
open Go.RowKit
section
variable {P : Program}
/-- an append onto a row of the call's own, cells of any number, as an operation of a region that draws -/
theorem oper_append_to_s {o : Oper} {a : Act} {w : World} {K : Act → World → Prop} {Q : Exit → Act → World → Prop} (s x : Operand) (t : TypeId)
    (ho : o.op = .call { callee := .builtin .append, args := #[s, x], argTypes := #[t, t] })
    (base sz : Nat) (e : TypeId) (i : TypeInfo) (z : Value) (bytes : Nat) (ht : P.underlying t = some (.slice e)) (hi : P.info? e = some i) (hz : i.zero = some z)
    (hsize : i.size = sz) (hby : i.bytes = bytes) (hzs : z.cells.size = sz) (hs0 : 0 < sz)
    (v : Value) (n : Nat) (xs : List Value) (hs : a.eval s = v) (hown : w.ownsRow base e sz v n xs)
    (B : Nat) (A : Option Addr) (m c : Nat) (news : List Value) (hx : a.eval x = .slice A m c) (hm : news.length = m * sz) (hr : Reads w B A news) (h1 : ∀ u ∈ news, u.oneCell' = true)
    (h63 : n + m ≤ maxLen) (hbytes : (n + m) * bytes ≤ 140737488355328) (hbase : base ≤ w.heap.size)
    (h : ∀ A' c' w', w'.ownsRow base e sz (.slice A' (n + m) c') (n + m) (xs ++ news) → Below base w w' → K (a.put o.dst (.slice A' (n + m) c')) w') : Oper.wp P o a w K Q := by
  obtain ⟨v', w', hrun, h2, h3, _⟩ := run_append_to_s (P := P) w base sz t o.type e i z bytes ht hi hz hsize hby hzs hs0 v n xs hown B A m c news hm hr h1 h63 hbytes hbase
  obtain ⟨A', c', rfl⟩ := own_form_s h2
  unfold Oper.wp execOp
  simp only [ho, resolve, invoke, builtin, Sem.run_bind, Sem.run_pure, Result.andThen_ok, List.map_toArray, List.map_cons, List.map_nil, hs, hx, hrun]
  exact h _ _ _ h2 (below_of_grown_s hown hbase h3)
end
theorem keys_wf {l : List EntL} (h : ∀ x ∈ l, (Lit.int .i64 x.key).wf = true ∧ x.val.length ≤ reachBytes ∧ (Lit.int .i64 x.at_).wf = true) (k : Nat) (hk : k < l.length) : (Lit.int .i64 (keyA l k)).wf = true ∧ (valA l k).length ≤ reachBytes := by
  have h1 := h l[k] (List.getElem_mem hk)
  unfold keyA valA
  rw [List.getD_eq_getElem?_getD, List.getElem?_eq_getElem hk]
  exact ⟨h1.1, h1.2.1⟩
theorem zero_next {l : List EntL} {k : Nat} (h : k < l.length) : (l.map zeroE).take (k + 1) = (l.map zeroE).take k ++ [⟨keyA l k, valA l k, 0⟩] := by
  rw [List.take_add_one, List.getElem?_map, ent_at h]
  rfl
theorem zero_end (l : List EntL) : (l.map zeroE).take l.length = l.map zeroE := by rw [List.take_of_length_le (by simp)]
theorem flat_each : ∀ {ls : List (List Int)} {n : Nat}, ls.flatten.length ≤ n → ∀ l ∈ ls, l.length ≤ n
  | [], _, _, l, hl => by cases hl
  | x :: r, n, h, l, hl => by
    rw [List.flatten_cons, List.length_append] at h
    rcases List.mem_cons.1 hl with rfl | hl
    · omega
    · exact flat_each (n := n) (by omega) l hl
theorem joinV_len {bits : List (List Int)} {over : List EntL} {n : Nat} (h : bits.flatten.length ≤ n) : (joinV bits over).length ≤ n := by
  unfold joinV
  split
  · rw [outJ_len]; exact h
  · simp
theorem joinV_none {bits : List (List Int)} {over : List EntL} (h : ¬ joinE bits over = 0) : joinV bits over = [] := by unfold joinV; rw [if_neg h]
set_option linter.unusedSimpArgs false in
set_option maxRecDepth 100000 in
set_option maxHeartbeats 8000000 in
theorem law_TallyBack (A0 : Option Addr) (c0 : Nat) (l0 : List Int) (A1 : Option Addr) (c1 : Nat) (l1 : List (List Int)) (A2 : Option Addr) (c2 : Nat) (l2 : List EntL) (w : World)
    (_q0 : l0.length ≤ c0) (m0 : l0.length * 8 ≤ reachBytes) (_f0 : ∀ x ∈ l0, (Lit.int .i64 x).wf = true) (r0 : Reads w w.heap.size A0 (iv l0))
    (_q1 : l1.length ≤ c1) (m1 : l1.length * 24 ≤ reachBytes) (f1 : ∀ l ∈ l1, l.length * 8 ≤ reachBytes ∧ ∀ x ∈ l, (Lit.int .i64 x).wf = true) (r1 : Lists w w.heap.size A1 l1)
    (_q2 : l2.length ≤ c2) (m2 : l2.length * 32 ≤ reachBytes) (f2 : ∀ x ∈ l2, (Lit.int .i64 x.key).wf = true ∧ x.val.length ≤ reachBytes ∧ (Lit.int .i64 x.at_).wf = true) (r2 : Ents w w.heap.size A2 l2) :
    Calls Try.prog 5 #[.slice A0 l0.length c0, .slice A1 l1.length c1, .slice A2 l2.length c2] w fun e w' => e = .returned (.bool true) ∧ Below w.heap.size w w' := by
  have hk := keys_wf f2
  have hl : ∀ l ∈ l1, l.length ≤ 20000000000000 := fun l hx => by have := (f1 l hx).1; simp only [reachBytes] at this; omega
  simp only [reachBytes] at m0 m1 m2
  by_cases h5 : 5000 < l0.length
  · have hci : (5000 : Int) < (l0.length : Int) := by omega
    clear r0 r1 r2 hk hl f1 f2
    go_enter Try.func5, Try.ntmps5
    go_wp2_with fail
    refine (lives21 _).mono ?_
    rintro e w1 ⟨rfl, hb⟩
    have hB := hb
    clear hb
    go_wp2
    go_ret
    exact ⟨rfl, hB⟩
  have hci : decide (5000 < l0.length) = false := decide_eq_false h5
  have hcj : ¬ (5000 : Int) < (l0.length : Int) := by omega
  have hck : decide ((5000 : Int) < (l0.length : Int)) = false := decide_eq_false hcj
  have KS := short21_any A1 c1 l1 A2 c2 l2 w _ _ (by omega) hl (by omega) (fun k h => (hk k h).2) r1 r2
  have K1 := Lib.hid (split_any A0 c0 l0 (by omega) w r0)
  have H5 := Lib.hid (show l0.length ≤ 5000 by omega)
  have KJ := Lib.hid (fun (hs : Small21 l1 l2) (V : World) (hb : Below w.heap.size w V) => join_any A1 c1 l1 A2 c2 l2 (by have := hs.1; omega) (by have := hs.2.1; omega) (by have := hs.2.2; omega) hk V (r1.ext hb) (r2.ext hb))
  have R0 := Lib.hid r0
  have R1 := Lib.hid r1
  have R2 := Lib.hid r2
  clear hk hl m0 m1 m2 f1 f2 r0 r1 r2 h5
  obtain ⟨ent_i, je0, je1, je2, je3⟩ := info_parts Try.infoEnt
  go_enter Try.func5, Try.ntmps5
  go_wp2_with fail
  refine KS.mono ?_
  rintro e w1 ⟨q, rfl, HS, rfl⟩
  clear KS
  cases q with
  | false =>
    go_wp2_with fail
    refine (lives21 _).mono ?_
    rintro e w2 ⟨rfl, hb⟩
    have hB := hb
    clear hb
    go_wp2
    go_ret
    exact ⟨rfl, hB⟩
  | true =>
    have HSM := Lib.hid (HS.out (by first | rfl | trivial))
    have KJ2 := Lib.hid (KJ.out HSM.out)
    clear HS KJ
    go_wp2_with fail
    refine K1.out.mono ?_
    rintro e w2 ⟨A3, c3, A4, c4, rfl, hL, hE, hb2⟩
    have HB2 := Lib.hid hb2
    by_cases hE0 : splitE l0 = 0
    focus
      obtain ⟨j1, j2, j3, j4, j5, j6⟩ := join_split (by have := H5.out; omega) hE0
      have kj := join_any A3 c3 (splitB l0) A4 c4 (splitO l0) (by have := H5.out; omega) (by have := H5.out; omega) (by have := H5.out; omega) j6 w2 hL hE
      rw [j1, j2] at kj
      rw [hE0]
      clear j1 j2 j3 j4 j5 j6 hL hE hE0 hb2 K1
      generalize (splitB l0).length = bn at *
      generalize (splitO l0).length = on at *
      go_wp2_with fail
      refine kj.mono ?_
      rintro e w3 ⟨A5, c5, rfl, hown3, hb3⟩
      have HB3 := Lib.hid (below_then HB2.out hb3)
      have ks := sameI_any A5 c5 A0 c0 l0 w3 _ _ (by have := H5.out; simp only [reachBytes]; omega) (Reads.of_own hown3) (R0.out.below HB3.out)
      rw [iv_len]
      clear kj hown3 hb3
      go_wp2_with fail
      refine ks.mono ?_
      rintro e V ⟨rfl, hb4⟩
      have HBV := Lib.hid (below_then HB3.out hb4)
      clear ks hb4 HB3 HB2
      go_wp2_with fail
    rotate_left
    focus
      clear hL hE hb2 K1
      generalize splitE l0 = E at *
      generalize (splitB l0).length = bn at *
      generalize (splitO l0).length = on at *
      rename World => V
      have HBV := HB2
      clear HB2
      go_wp2_with fail
    all_goals
      refine (KJ2.out _ HBV.out).mono ?_
      rintro e w5 ⟨A6, c6, rfl, hown5, hb5⟩
      have HB5 := Lib.hid (below_then HBV.out hb5)
      rw [iv_len]
      by_cases hj : joinE l1 l2 = 0
      · obtain ⟨s1, s2, s3⟩ := split_join hj
        have hjl : (joinV l1 l2).length ≤ 9600 := joinV_len HSM.out.2.1
        have ks := split_any A6 c6 (joinV l1 l2) (by omega) w5 (Reads.of_own hown5)
        rw [hj]
        clear hj hown5 hb5 KJ2 HBV
        generalize joinV l1 l2 = X at *
        go_wp2_with fail
        refine ks.mono ?_
        rintro e w6 ⟨A7, c7, A8, c8, rfl, hL6, hE6, hb6⟩
        rw [s2] at hL6
        rw [s3] at hE6
        rw [s1, s2, s3, List.length_map]
        clear ks s1 s2 s3 hjl
        have HB6 := Lib.hid (below_then HB5.out hb6)
        have K7 := Lib.hid (fun (V : World) (hb : Below w6.heap.size w6 V) => sameBits_any A7 c7 A1 c1 l1 V _ _ (by have := HSM.out.1; omega) (fun x hx => by have := flat_each HSM.out.2.1 x hx; omega) (hL6.ext hb) (R1.out.ext (below_then HB6.out hb)))
        have K8 := Lib.hid (fun (V : World) (hb : Below w6.heap.size w6 V) (A9 : Option Addr) (c9 : Nat) (he : Ents V V.heap.size A9 (l2.map zeroE)) => (show Calls Try.prog 14 #[.slice A8 l2.length c8, .slice A9 l2.length c9] V fun e w' => e = .returned (.bool true) ∧ Below V.heap.size V w' from by
          have := sameEnts_any A8 c8 A9 c9 (l2.map zeroE) V _ _ (by rw [List.length_map]; have := HSM.out.2.2; omega) (hE6.ext hb) he
          rw [List.length_map] at this
          exact this))
        clear hL6 hE6 hb6 HB5
        go_wp2_with fail
        go_loopw [17, 18] (fun s17 s18 wr => ∃ (k : Nat) (A9 : Option Addr) (c9 : Nat), k ≤ l2.length ∧ s17 = .slice A9 k c9 ∧ s18 = .int .i64 k ∧ Hid (wr.ownsRow w6.heap.size 41 3 (.slice A9 k c9) k (ev ((l2.map zeroE).take k))) ∧ Hid (Below w6.heap.size w6 wr)) (fun _ s18 _ => l2.length - (intOf s18).toNat)
        case atStart => exact ⟨0, none, 0, by omega, rfl, rfl, Lib.hid (World.ownsRow_nil _ _ _ _), Lib.hid (Below.refl _ _)⟩
        case round =>
          obtain ⟨k, A9, c9, hk, rfl, rfl, HO, HB⟩ := hrel
          by_cases hlt : k < l2.length
          · have hci : (k : Int) < (l2.length : Int) := by omega
            obtain ⟨b, o, rfl, -, hc⟩ := R2.out (by omega)
            obtain ⟨e0, e1, -⟩ := hc k _ (ent_at hlt)
            have hE := Lib.hid (And.intro e0 e1)
            replace e0 := keep_cell (below_then HB6.out HB.out) e0
            replace e1 := keep_cell (below_then HB6.out HB.out) e1
            replace e0 : wr.cell? ⟨b, o + k * 3, none⟩ = some (.int .i64 (keyA l2 k)) := e0
            replace e1 : wr.cell? ⟨b, o + k * 3 + 1, none⟩ = some (.string ⟨(valA l2 k).toArray⟩) := e1
            have HZ := Lib.hid (zero_next hlt)
            have hsm : l2.length ≤ 500 := HSM.out.2.2
            generalize keyA l2 k = x at *
            generalize valA l2 k = v at *
            have HOD := Lib.hid ((show wr.drew.ownsRow w6.heap.size 41 3 (.slice A9 k c9) k (ev ((l2.map zeroE).take k)) from HO.out).alloc (.cells #[.int .i64 x, .string ⟨v.toArray⟩, .int .i64 0] 41))
            have HBD := Lib.hid ((HB.out.drew).trans ((below_alloc1 wr.drew (.cells #[.int .i64 x, .string ⟨v.toArray⟩, .int .i64 0] 41)).mono HB.out.size))
            have HK := Lib.hid (fun (V : World) (hb : Below w6.heap.size w6 V) => (show V.cell? ⟨b, o + k * 3, none⟩ = some (.int .i64 x) ∧ V.cell? ⟨b, o + k * 3 + 1, none⟩ = some (.string ⟨v.toArray⟩) from ⟨keep_cell (below_then HB6.out hb) hE.out.1, keep_cell (below_then HB6.out hb) hE.out.2⟩))
            clear hc hE
            go_upto_region 16 with fail
            refine wp_region_held_drew (S := (fun V => V.cell? ⟨b, o + k * 3, none⟩ = some (.int .i64 x) ∧ V.cell? ⟨b, o + k * 3 + 1, none⟩ = some (.string ⟨v.toArray⟩))) (by kernel_rfl) ?_ (fun hHeld => ?_)
            (focus ((try dsimp only); (first | exact ⟨e0, e1⟩ | exact HK.out _ HBD.out | exact HK.out _ HB9.out)))
            first | (refine anyH_skip 0 (by kernel_rfl) (by kernel_rfl) (by simp only [List.getElem?_toArray, List.getElem?_cons_zero] <;> rfl) (by kernel_rfl) (by exact fun _ _ _ h => h) (by rfl) (by assumption) ?_; (try simp only [Act.put, List.setIfInBounds_toArray, List.set_cons_zero, List.set_cons_succ])) | (refine anyH_take 0 (v := ?_) (by kernel_rfl) (by kernel_rfl) (by simp only [List.getElem?_toArray, List.getElem?_cons_zero] <;> rfl) (by kernel_rfl) (by exact fun _ _ _ h => h) (by rfl) ?_ (by assumption) ?_; rotate_left; (focus (intro w hSw; (try dsimp only at hSw); (try simp only [List.getElem_toArray, List.getElem_cons_succ, List.getElem_cons_zero]); go_simp; try (with_reducible rfl))); (try simp only [Act.put, List.setIfInBounds_toArray, List.set_cons_zero, List.set_cons_succ]))
            first | (refine anyH_skip 1 (by kernel_rfl) (by kernel_rfl) (by simp only [List.getElem?_toArray, List.getElem?_cons_succ, List.getElem?_cons_zero] <;> rfl) (by kernel_rfl) (by exact fun _ _ _ h => h) (by rfl) (by assumption) ?_; (try simp only [Act.put, List.setIfInBounds_toArray, List.set_cons_zero, List.set_cons_succ])) | (refine anyH_take 1 (v := ?_) (by kernel_rfl) (by kernel_rfl) (by simp only [List.getElem?_toArray, List.getElem?_cons_succ, List.getElem?_cons_zero] <;> rfl) (by kernel_rfl) (by exact fun _ _ _ h => h) (by rfl) ?_ (by assumption) ?_; rotate_left; (focus (intro w hSw; (try dsimp only at hSw); (try simp only [List.getElem_toArray, List.getElem_cons_succ, List.getElem_cons_zero]); go_simp; try (with_reducible rfl))); (try simp only [Act.put, List.setIfInBounds_toArray, List.set_cons_zero, List.set_cons_succ]))
            first | (refine anyH_skip 2 (by kernel_rfl) (by kernel_rfl) (by simp only [List.getElem?_toArray, List.getElem?_cons_succ, List.getElem?_cons_zero] <;> rfl) (by kernel_rfl) (by exact fun _ _ _ h => h) (by rfl) (by assumption) ?_; (try simp only [Act.put, List.setIfInBounds_toArray, List.set_cons_zero, List.set_cons_succ])) | (refine anyH_take 2 (v := ?_) (by kernel_rfl) (by kernel_rfl) (by simp only [List.getElem?_toArray, List.getElem?_cons_succ, List.getElem?_cons_zero] <;> rfl) (by kernel_rfl) (by exact fun _ _ _ h => h) (by rfl) ?_ (by assumption) ?_; rotate_left; (focus (intro w hSw; (try dsimp only at hSw); (try simp only [List.getElem_toArray, List.getElem_cons_succ, List.getElem_cons_zero]); go_simp; try (with_reducible rfl))); (try simp only [Act.put, List.setIfInBounds_toArray, List.set_cons_zero, List.set_cons_succ]))
            first | (refine anyH_skip 3 (by kernel_rfl) (by kernel_rfl) (by simp only [List.getElem?_toArray, List.getElem?_cons_succ, List.getElem?_cons_zero] <;> rfl) (by kernel_rfl) (by exact fun _ _ _ h => h) (by rfl) (by assumption) ?_; (try simp only [Act.put, List.setIfInBounds_toArray, List.set_cons_zero, List.set_cons_succ])) | (refine anyH_take 3 (v := ?_) (by kernel_rfl) (by kernel_rfl) (by simp only [List.getElem?_toArray, List.getElem?_cons_succ, List.getElem?_cons_zero] <;> rfl) (by kernel_rfl) (by exact fun _ _ _ h => h) (by rfl) ?_ (by assumption) ?_; rotate_left; (focus (intro w hSw; (try dsimp only at hSw); (try simp only [List.getElem_toArray, List.getElem_cons_succ, List.getElem_cons_zero]); go_simp; try (with_reducible rfl))); (try simp only [Act.put, List.setIfInBounds_toArray, List.set_cons_zero, List.set_cons_succ]))
            first | (refine anyH_skip 4 (by kernel_rfl) (by kernel_rfl) (by simp only [List.getElem?_toArray, List.getElem?_cons_succ, List.getElem?_cons_zero] <;> rfl) (by kernel_rfl) (by exact fun _ _ _ h => h) (by rfl) (by assumption) ?_; (try simp only [Act.put, List.setIfInBounds_toArray, List.set_cons_zero, List.set_cons_succ])) | (refine anyH_take 4 (v := ?_) (by kernel_rfl) (by kernel_rfl) (by simp only [List.getElem?_toArray, List.getElem?_cons_succ, List.getElem?_cons_zero] <;> rfl) (by kernel_rfl) (by exact fun _ _ _ h => h) (by rfl) ?_ (by assumption) ?_; rotate_left; (focus (intro w hSw; (try dsimp only at hSw); (try simp only [List.getElem_toArray, List.getElem_cons_succ, List.getElem_cons_zero]); go_simp; try (with_reducible rfl))); (try simp only [Act.put, List.setIfInBounds_toArray, List.set_cons_zero, List.set_cons_succ]))
            first | (refine anyH_skip 5 (by kernel_rfl) (by kernel_rfl) (by simp only [List.getElem?_toArray, List.getElem?_cons_succ, List.getElem?_cons_zero] <;> rfl) (by kernel_rfl) (by exact fun _ _ _ h => h) (by rfl) (by assumption) ?_; (try simp only [Act.put, List.setIfInBounds_toArray, List.set_cons_zero, List.set_cons_succ])) | (refine anyH_take 5 (v := ?_) (by kernel_rfl) (by kernel_rfl) (by simp only [List.getElem?_toArray, List.getElem?_cons_succ, List.getElem?_cons_zero] <;> rfl) (by kernel_rfl) (by exact fun _ _ _ h => h) (by rfl) ?_ (by assumption) ?_; rotate_left; (focus (intro w hSw; (try dsimp only at hSw); (try simp only [List.getElem_toArray, List.getElem_cons_succ, List.getElem_cons_zero]); go_simp; try (with_reducible rfl))); (try simp only [Act.put, List.setIfInBounds_toArray, List.set_cons_zero, List.set_cons_succ]))
            first | (refine anyH_skip 6 (by kernel_rfl) (by kernel_rfl) (by simp only [List.getElem?_toArray, List.getElem?_cons_succ, List.getElem?_cons_zero] <;> rfl) (by kernel_rfl) (by exact fun _ _ _ h => h) (by rfl) (by assumption) ?_; (try simp only [Act.put, List.setIfInBounds_toArray, List.set_cons_zero, List.set_cons_succ])) | (refine anyH_take 6 (v := ?_) (by kernel_rfl) (by kernel_rfl) (by simp only [List.getElem?_toArray, List.getElem?_cons_succ, List.getElem?_cons_zero] <;> rfl) (by kernel_rfl) (by exact fun _ _ _ h => h) (by rfl) ?_ (by assumption) ?_; rotate_left; (focus (intro w hSw; (try dsimp only at hSw); (try simp only [List.getElem_toArray, List.getElem_cons_succ, List.getElem_cons_zero]); go_simp; try (with_reducible rfl))); (try simp only [Act.put, List.setIfInBounds_toArray, List.set_cons_zero, List.set_cons_succ]))
            first | (refine anyH_skip 7 (by kernel_rfl) (by kernel_rfl) (by simp only [List.getElem?_toArray, List.getElem?_cons_succ, List.getElem?_cons_zero] <;> rfl) (by kernel_rfl) (by exact fun _ _ _ h => h) (by rfl) (by assumption) ?_; (try simp only [Act.put, List.setIfInBounds_toArray, List.set_cons_zero, List.set_cons_succ])) | (refine anyH_take 7 (v := ?_) (by kernel_rfl) (by kernel_rfl) (by simp only [List.getElem?_toArray, List.getElem?_cons_succ, List.getElem?_cons_zero] <;> rfl) (by kernel_rfl) (by exact fun _ _ _ h => h) (by rfl) ?_ (by assumption) ?_; rotate_left; (focus (intro w hSw; (try dsimp only at hSw); (try simp only [List.getElem_toArray, List.getElem_cons_succ, List.getElem_cons_zero]); go_simp; try (with_reducible rfl))); (try simp only [Act.put, List.setIfInBounds_toArray, List.set_cons_zero, List.set_cons_succ]))
            first | (refine anyH_skip 8 (by kernel_rfl) (by kernel_rfl) (by simp only [List.getElem?_toArray, List.getElem?_cons_succ, List.getElem?_cons_zero] <;> rfl) (by kernel_rfl) (by exact fun _ _ _ h => h) (by rfl) (by assumption) ?_; (try simp only [Act.put, List.setIfInBounds_toArray, List.set_cons_zero, List.set_cons_succ])) | (refine anyH_take 8 (v := ?_) (by kernel_rfl) (by kernel_rfl) (by simp only [List.getElem?_toArray, List.getElem?_cons_succ, List.getElem?_cons_zero] <;> rfl) (by kernel_rfl) (by exact fun _ _ _ h => h) (by rfl) ?_ (by assumption) ?_; rotate_left; (focus (intro w hSw; (try dsimp only at hSw); (try simp only [List.getElem_toArray, List.getElem_cons_succ, List.getElem_cons_zero]); go_simp; try (with_reducible rfl))); (try simp only [Act.put, List.setIfInBounds_toArray, List.set_cons_zero, List.set_cons_succ]))
            first | (refine anyH_skip 9 (by kernel_rfl) (by kernel_rfl) (by simp only [List.getElem?_toArray, List.getElem?_cons_succ, List.getElem?_cons_zero] <;> rfl) (by kernel_rfl) (by exact fun _ _ _ h => h) (by rfl) (by assumption) ?_; (try simp only [Act.put, List.setIfInBounds_toArray, List.set_cons_zero, List.set_cons_succ])) | (refine anyH_take 9 (v := ?_) (by kernel_rfl) (by kernel_rfl) (by simp only [List.getElem?_toArray, List.getElem?_cons_succ, List.getElem?_cons_zero] <;> rfl) (by kernel_rfl) (by exact fun _ _ _ h => h) (by rfl) ?_ (by assumption) ?_; rotate_left; (focus (intro w hSw; (try dsimp only at hSw); (try simp only [List.getElem_toArray, List.getElem_cons_succ, List.getElem_cons_zero]); go_simp; try (with_reducible rfl))); (try simp only [Act.put, List.setIfInBounds_toArray, List.set_cons_zero, List.set_cons_succ]))
            first | (refine anyH_skip 10 (by kernel_rfl) (by kernel_rfl) (by simp only [List.getElem?_toArray, List.getElem?_cons_succ, List.getElem?_cons_zero] <;> rfl) (by kernel_rfl) (by exact fun _ _ _ h => h) (by rfl) (by assumption) ?_; (try simp only [Act.put, List.setIfInBounds_toArray, List.set_cons_zero, List.set_cons_succ])) | (refine anyH_take 10 (v := ?_) (by kernel_rfl) (by kernel_rfl) (by simp only [List.getElem?_toArray, List.getElem?_cons_succ, List.getElem?_cons_zero] <;> rfl) (by kernel_rfl) (by exact fun _ _ _ h => h) (by rfl) ?_ (by assumption) ?_; rotate_left; (focus (intro w hSw; (try dsimp only at hSw); (try simp only [List.getElem_toArray, List.getElem_cons_succ, List.getElem_cons_zero]); go_simp; try (with_reducible rfl))); (try simp only [Act.put, List.setIfInBounds_toArray, List.set_cons_zero, List.set_cons_succ]))
            first | (refine anyH_skip 11 (by kernel_rfl) (by kernel_rfl) (by simp only [List.getElem?_toArray, List.getElem?_cons_succ, List.getElem?_cons_zero] <;> rfl) (by kernel_rfl) (by exact fun _ _ _ h => h) (by rfl) (by assumption) ?_; (try simp only [Act.put, List.setIfInBounds_toArray, List.set_cons_zero, List.set_cons_succ])) | (refine anyH_take 11 (v := ?_) (by kernel_rfl) (by kernel_rfl) (by simp only [List.getElem?_toArray, List.getElem?_cons_succ, List.getElem?_cons_zero] <;> rfl) (by kernel_rfl) (by exact fun _ _ _ h => h) (by rfl) ?_ (by assumption) ?_; rotate_left; (focus (intro w hSw; (try dsimp only at hSw); (try simp only [List.getElem_toArray, List.getElem_cons_succ, List.getElem_cons_zero]); go_simp; try (with_reducible rfl))); (try simp only [Act.put, List.setIfInBounds_toArray, List.set_cons_zero, List.set_cons_succ]))
            first | (refine anyH_pass 12 (by kernel_rfl) (by simp only [List.getElem?_toArray, List.getElem?_cons_succ, List.getElem?_cons_zero] <;> rfl) (by rfl) (by assumption) ?_; (try simp only [Act.put, List.setIfInBounds_toArray, List.set_cons_zero, List.set_cons_succ])) | (refine anyH_one 12 (by kernel_rfl) (by simp only [List.getElem?_toArray, List.getElem?_cons_succ, List.getElem?_cons_zero] <;> rfl) (by rfl) (fun K hK => ?_); (try simp only [List.getElem_toArray, List.getElem_cons_succ, List.getElem_cons_zero]); go_simp; (first | (refine oper_append_to_s (.tmp 77) (.tmp 89) 25 rfl w6.heap.size 3 41 ent_i _ 32 Try.underlying25 je0 je1 je2 je3 rfl (by decide) _ k (ev ((l2.map zeroE).take k)) rfl HOD.out _ (some ⟨wr.drew.heap.size, 0, none⟩) 1 1 [.int .i64 x, .string ⟨v.toArray⟩, .int .i64 0] rfl rfl (Reads.new wr.drew [.int .i64 x, .string ⟨v.toArray⟩, .int .i64 0] 41 (0, 0)) (by simp [Value.oneCell']) (by simp only [maxLen]; omega) (by omega) HBD.out.size ?_; intro A10 c10 w9 hown9 hb9; have HB9 := Lib.hid (HBD.out.trans hb9); have HO9 : Hid (w9.ownsRow w6.heap.size 41 3 (.slice A10 (k + 1) c10) (k + 1) (ev ((l2.map zeroE).take (k + 1)))) := (by rw [HZ.out, ev_append]; exact Lib.hid hown9); clear hown9 hb9) | skip); refine hK.out _ _ ?_ (fun hHeld => ?_); (focus ((try dsimp only); (first | exact ⟨e0, e1⟩ | exact HK.out _ HBD.out | exact HK.out _ HB9.out))); clear hK K; (try simp only [Act.put, List.setIfInBounds_toArray, List.set_cons_zero, List.set_cons_succ]))
            (refine anyH_one 13 (by kernel_rfl) (by simp only [List.getElem?_toArray, List.getElem?_cons_succ, List.getElem?_cons_zero] <;> rfl) (by rfl) (fun K hK => ?_); (first | (refine oper_append_to_s (.tmp 77) (.tmp 89) 25 rfl w6.heap.size 3 41 ent_i _ 32 Try.underlying25 je0 je1 je2 je3 rfl (by decide) _ k (ev ((l2.map zeroE).take k)) rfl HOD.out _ (some ⟨wr.drew.heap.size, 0, none⟩) 1 1 [.int .i64 x, .string ⟨v.toArray⟩, .int .i64 0] rfl rfl (Reads.new wr.drew [.int .i64 x, .string ⟨v.toArray⟩, .int .i64 0] 41 (0, 0)) (by simp [Value.oneCell']) (by simp only [maxLen]; omega) (by omega) HBD.out.size ?_; intro A10 c10 w9 hown9 hb9; have HB9 := Lib.hid (HBD.out.trans hb9); have HO9 : Hid (w9.ownsRow w6.heap.size 41 3 (.slice A10 (k + 1) c10) (k + 1) (ev ((l2.map zeroE).take (k + 1)))) := (by rw [HZ.out, ev_append]; exact Lib.hid hown9); clear hown9 hb9) | skip); refine hK.out _ _ ?_ (fun hHeld => ?_); (focus ((try dsimp only); (first | exact ⟨e0, e1⟩ | exact HK.out _ HBD.out | exact HK.out _ HB9.out))); clear hK K; (try simp only [Act.put, List.setIfInBounds_toArray, List.set_cons_zero, List.set_cons_succ]))
            first | (refine anyH_skip 14 (by kernel_rfl) (by kernel_rfl) (by simp only [List.getElem?_toArray, List.getElem?_cons_succ, List.getElem?_cons_zero] <;> rfl) (by kernel_rfl) (by exact fun _ _ _ h => h) (by rfl) (by assumption) ?_; (try simp only [Act.put, List.setIfInBounds_toArray, List.set_cons_zero, List.set_cons_succ])) | (refine anyH_take 14 (v := ?_) (by kernel_rfl) (by kernel_rfl) (by simp only [List.getElem?_toArray, List.getElem?_cons_succ, List.getElem?_cons_zero] <;> rfl) (by kernel_rfl) (by exact fun _ _ _ h => h) (by rfl) ?_ (by assumption) ?_; rotate_left; (focus (intro w hSw; (try dsimp only at hSw); (try simp only [List.getElem_toArray, List.getElem_cons_succ, List.getElem_cons_zero]); go_simp; try (with_reducible rfl))); (try simp only [Act.put, List.setIfInBounds_toArray, List.set_cons_zero, List.set_cons_succ]))
            all_goals (refine wpAnyH_done (by kernel_rfl) ?_ _)
            go_wp2
            go_roundw
            case rel => exact ⟨k + 1, A10, c10, by omega, rfl, by go_num, HO9, HB9⟩
            case measure => simp [intOf]; omega
          · obtain rfl : k = l2.length := by omega
            have k7 := K7.out _ HB.out
            rw [zero_end] at HO
            have HE9 := Lib.hid (Ents.of_own (by rw [List.length_map]) HO.out)
            have HBZ := Lib.hid (below_then HB6.out HB.out)
            clear hlt hk
            go_wp2_with fail
            refine k7.mono ?_
            rintro e w7 ⟨rfl, hb7⟩
            have k8 := K8.out _ (below_then HB.out hb7) A9 c9 (HE9.out.ext hb7)
            have HB7 := Lib.hid (below_then HBZ.out hb7)
            clear k7 hb7
            go_wp2_with fail
            refine k8.mono ?_
            rintro e w8 ⟨rfl, hb8⟩
            have HB8 := Lib.hid (below_then HB7.out hb8)
            clear k8 hb8
            go_wp2_with fail
            refine (lives21 _).mono ?_
            rintro e w9 ⟨rfl, hb9⟩
            have hB := below_then HB8.out hb9
            clear hb9
            go_wp2
            go_ret
            exact ⟨rfl, hB⟩
      · rw [joinV_none hj, List.length_nil]
        clear hown5 hb5 KJ2 HBV
        generalize joinE l1 l2 = E2 at *
        go_wp2_with fail
        refine (lives21 _).mono ?_
        rintro e w6 ⟨rfl, hb6⟩
        have hB := below_then HB5.out hb6
        clear hb6
        go_wp2
        go_ret
        exact ⟨rfl, hB⟩
end Go.Proofs.Ytcnalndhlonblaa
