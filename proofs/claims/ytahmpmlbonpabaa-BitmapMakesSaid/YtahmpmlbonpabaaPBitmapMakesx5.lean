/- BitmapMakes: the walk of the law, where all that it asks holds. -/
import Derived.Test.YtahmpmlbonpabaaPBitmapMakesx1
import Derived.Test.YtahmpmlbonpabaaPBitmapMakesx2
import Derived.Test.YtahmpmlbonpabaaPBitmapMakesx3
import Derived.Test.YtahmpmlbonpabaaPBitmapMakesx4
import Derived.Deep.QuietTactic
import Derived.BigQuiet
import Derived.Deep.RegionHeld3
namespace Go.Proofs.Ytahmpmlbonpabaa.PBitmapMakes
open Go.RowKit Go.Proofs.Ytahmpmlbonpabaa.PMarkF Go.Proofs.YtahmpmlbonpabaaW.PrintWords Go.Proofs.YtahmpmlbonpabaaW.PrintLast Go.Proofs.YtahmpmlbonpabaaW.PrintMore
set_option linter.unusedVariables false
set_option linter.unusedSimpArgs false
/-- Is a place outside a row of so many? -/
def outside (n x : Int) : Bool := decide (x < 0) || decide (n ≤ x)
/-- Is the count too great, or one of the first places outside? -/
def badTo (n : Int) (l : List Int) (i : Int) : Bool := decide (16777216 < n) || (l.take i.toNat).any (outside n)
theorem badTo_zero (n : Int) (l : List Int) : badTo n l 0 = decide (16777216 < n) := by
  unfold badTo
  rw [show (0 : Int).toNat = 0 from rfl, List.take_zero, List.any_nil, Bool.or_false]
theorem badTo_succ (n : Int) (l : List Int) (i : Int) (h0 : 0 ≤ i) (h : i < (l.length : Int)) : badTo n l (i + 1) = (badTo n l i || outside n (rd l i)) := by
  obtain ⟨m, rfl⟩ := Int.eq_ofNat_of_zero_le h0
  have hm : m < l.length := by omega
  unfold badTo rd
  rw [show (((m : Nat) : Int) + 1).toNat = m + 1 from by omega, Int.toNat_natCast, List.take_succ_eq_append_getElem hm, List.any_append, Bool.or_assoc, List.getD_eq_getElem?_getD, List.getElem?_eq_getElem hm]
  simp
theorem badTo_all (n : Int) (l : List Int) : badTo n l (l.length : Int) = (decide (16777216 < n) || l.any (outside n)) := by
  unfold badTo
  rw [List.take_of_length_le (by omega)]
/-- What a block holds, behind the call's own beginning. -/
structure MH (w W : World) (g : Nat) (cs : Array Value) : Prop where
  r : Below w.heap.size w W
  b : W.heap[g]? = some (.cells cs 25 (0, 0))
theorem MH.below {w W w1 : World} {g : Nat} {cs : Array Value} (h : MH w W g cs) (hb : Below W.heap.size W w1) : MH w w1 g cs := ⟨below_step h.r hb, blk_below h.b hb⟩
theorem MH.drewN {w W : World} {g : Nat} {cs : Array Value} (h : MH w W g cs) (n : Nat) : MH w (W.drewN n) g cs := ⟨pw_below_drewN h.r n, blk_drewN h.b n⟩
theorem MH.drew {w W : World} {g : Nat} {cs : Array Value} (h : MH w W g cs) : MH w W.drew g cs := h.drewN 1
theorem keep2 {w W w1 : World} {g : Nat} {u v : Value} (h : W.cell? ⟨g, 0, none⟩ = some u ∧ W.cell? ⟨g, 1, none⟩ = some v ∧ MH w W g #[u, v]) (hb : Below W.heap.size W w1) :
    w1.cell? ⟨g, 0, none⟩ = some u ∧ w1.cell? ⟨g, 1, none⟩ = some v ∧ MH w w1 g #[u, v] := ⟨blk_cell (h.2.2.below hb).b 0, blk_cell (h.2.2.below hb).b 1, h.2.2.below hb⟩
set_option maxHeartbeats 8000000 in
set_option maxRecDepth 100000 in
theorem makes_big (k : Nat) (a0 : Int) (A1 : Option Addr) (c1 : Nat) (l1 : List Int) (a2_0 : Int) (A2_1 : Option Addr) (c2_1 : Nat) (l2_1 : List Int) (w : World) (hr1 : Kd.C (Kd.int .i64) w A1 l1.length l1) (hc1 : l1.length ≤ c1)
    (hr2_1 : Kd.C (Kd.int .u64) w A2_1 l2_1.length l2_1) (hc2_1 : l2_1.length ≤ c2_1) (x : Bool) (h1 : bitmap_Formed.f a2_0 l2_1 = some x) (h2 : quarryref04_Formed.f k a2_0 l2_1 = some x) (h3 : quarrykit_LentInts.f l1 = some l1) (h4 : quarrykit_KeptInts.f l1 l1 = some true)
    (b1 : Int) (b2 : List Int) (e0 : Int) (bad : Bool) (he : e0 = if bad = true then 2 else 0) (hbad : (decide (16777216 < a0) || l1.any (outside a0)) = bad) (h5 : bitmap_Make.f k a0 l1 = some (b1, b2, e0)) (h6 : bitmap_Formed.f b1 b2 = some true) (hbig : 65536 < a0) :
    Calls Try.prog 3 #[.int .i64 a0, .slice A1 l1.length c1, .agg #[.int .i64 a2_0, .slice A2_1 l2_1.length c2_1]] w fun e w' => e = .returned (.bool true) ∧ Below w.heap.size w w' := by
  have hu25 := Try.underlying25
  have HB := Below.refl w.heap.size w
  have HE := Aside0.mk he
  have HBAD := Aside0.mk hbad
  have HBIG := Aside0.mk hbig
  have hbg : decide (65536 < a0) = true := decide_eq_true hbig
  clear he hbad hbig
  go_enter Try.func3, Try.ntmps3
  go_wp2
  have HB1 : Below w.heap.size w (w.alloc (.cells #[.int .i64 a2_0, .slice A2_1 l2_1.length c2_1] 25 (0, 0))) := below_alloc HB _
  have BK : (w.alloc (.cells #[.int .i64 a2_0, .slice A2_1 l2_1.length c2_1] 25 (0, 0))).heap[w.heap.size]? = some (.cells #[.int .i64 a2_0, .slice A2_1 l2_1.length c2_1] 25 (0, 0)) := blk_new w _
  generalize w.alloc (.cells #[.int .i64 a2_0, .slice A2_1 l2_1.length c2_1] 25 (0, 0)) = W at HB1 BK ⊢
  clear HB
  have HM : MH w W w.heap.size #[.int .i64 a2_0, .slice A2_1 l2_1.length c2_1] := ⟨HB1, BK⟩
  have k0 : W.cell? ⟨w.heap.size, 0, none⟩ = some (.int .i64 a2_0) := blk_cell BK 0
  have k1 : W.cell? ⟨w.heap.size, 1, none⟩ = some (.slice A2_1 l2_1.length c2_1) := blk_cell BK 1
  have hS : W.drew.cell? ⟨w.heap.size, 0, none⟩ = some (.int .i64 a2_0) ∧ W.drew.cell? ⟨w.heap.size, 1, none⟩ = some (.slice A2_1 l2_1.length c2_1) ∧ MH w W.drew w.heap.size #[.int .i64 a2_0, .slice A2_1 l2_1.length c2_1] := ⟨k0, k1, HM.drew⟩
  clear HB1 BK
  have hne : (x != x) = false := bne_self_eq_false x
  go_region_held3 (fun w' => w'.cell? ⟨w.heap.size, 0, none⟩ = some (.int .i64 a2_0) ∧ w'.cell? ⟨w.heap.size, 1, none⟩ = some (.slice A2_1 l2_1.length c2_1) ∧ MH w w' w.heap.size #[.int .i64 a2_0, .slice A2_1 l2_1.length c2_1])
    (first | exact hS | exact keep2 (by assumption) (by assumption) | exact ⟨k0, k1, HM.drew⟩ | exact ⟨k0, k1, HM⟩)
    (first
    | (go_at_call 5; (with_reducible refine (bitmap_Formed.calls a2_0 _ _ l2_1 x _ ?_ hc2_1 h1).mono ?_); (first | exact Kd.C_below hr2_1 HM.drew.r | exact Kd.C_below hr2_1 (MH.r (And.right (And.right (by assumption))))); rintro e w' ⟨rfl, hb⟩)
    | (go_at_call 6; (with_reducible refine (quarryref04_Formed.calls k a2_0 _ _ l2_1 x _ ?_ hc2_1 h2).mono ?_); (first | exact Kd.C_below hr2_1 HM.drew.r | exact Kd.C_below hr2_1 (MH.r (And.right (And.right (by assumption))))); rintro e w' ⟨rfl, hb⟩))
  rename_i hF
  obtain ⟨-, -, HM1⟩ := hF
  have HB := HM1.r
  clear HM1 hb HM hS k0 k1 hne
  go_wp2_with (first
    | (go_at_call 7; (with_reducible refine (quarrykit_LentInts.calls A1 _ l1 l1 _ (Kd.C_below hr1 HB) hc1 h3).mono ?_); rintro e w2 ⟨vL, rfl, hL, hb⟩; have n1_ := below_step HB hb; obtain ⟨AL, cL, rfl⟩ := LK.R_slice hL; have HL := LK.R_lower hL (HB.size); clear HB hb hL; have HB := n1_; clear n1_; obtain ⟨i0, hi0, _, _, _⟩ := info_parts lent_info3; have hcc := (LK.R_reads' HL).2.1; have hcut := cut_past (P := Try.prog) 22 3 .i64 Try.underlying22 hi0 AL l1.length cL (l1.length : Int) (by omega) (by omega); rw [Int.toNat_natCast] at hcut; clear hi0)
    | (go_at_call 8; (with_reducible refine (bitmap_Make.calls k a0 AL cL l1 b1 b2 _ _ (LK.R_reads' HL).2.2 hcc h5).mono ?_); rintro e w3 ⟨vB, rfl, hB, hb⟩; have n1_ := below_step HB hb; have n2_ := LK.R_elder' HL (Kd.R_base hB) hb; obtain ⟨AB, cB, rfl⟩ := Kd.R_slice hB; have n3_ := Kd.R_lower hB (HB.size); clear HB hb HL hB hcut; have HB := n1_; have HL := n2_; have hB := n3_; clear n1_ n2_ n3_)
    | fail)
  have HB2 : Below w.heap.size w (w3.alloc (.cells #[.int .i64 b1, .slice AB b2.length cB] 25 (0, 0))) := below_alloc HB _
  have BK : (w3.alloc (.cells #[.int .i64 b1, .slice AB b2.length cB] 25 (0, 0))).heap[w3.heap.size]? = some (.cells #[.int .i64 b1, .slice AB b2.length cB] 25 (0, 0)) := blk_new w3 _
  have HL2 := LK.R_alloc HL (.cells #[.int .i64 b1, .slice AB b2.length cB] 25 (0, 0))
  have hB2 := Kd.R_alloc hB (.cells #[.int .i64 b1, .slice AB b2.length cB] 25 (0, 0))
  have hgB : w.heap.size ≤ w3.heap.size := HB.size
  clear HB HL hB
  generalize w3.alloc (.cells #[.int .i64 b1, .slice AB b2.length cB] 25 (0, 0)) = W3 at *
  generalize w3.heap.size = gB at *
  go_wp2_with (first
    | (go_at_call 9; (with_reducible refine (quarrykit_KeptInts.calls AL cL l1 A1 c1 l1 true _ (LK.C_of HL2) hcc (Kd.C_below hr1 HB2) hc1 h4).mono ?_); rintro e w4 ⟨rfl, hb⟩; have n1_ := below_step HB2 hb; have n2_ := Kd.R_below hB2 hb; have n3_ := blk_below BK hb; clear HB2 HL2 hb hB2 BK; have HB := n1_; have hB := n2_; have BK := n3_; clear n1_ n2_ n3_)
    | fail)
  rw [← badTo_zero a0 l1]
  have hr := Kd.C_below hr1 HB
  have HBD := badTo_all a0 l1
  rw [HBAD.out] at HBD
  have HBD := Aside0.mk HBD
  have HHB := Aside0.mk HB
  clear HB
  go_loopg [10, 11] (l1.length + 1) (fun kq v10 v11 w' => ∃ i : Int, v11 = .int .i64 i ∧ v10 = .bool (badTo a0 l1 i) ∧ Aside0 (0 ≤ i ∧ i ≤ (l1.length : Int) ∧ i.toNat + kq = l1.length + 1) ∧ w' = w4)
  case atStart => exact ⟨0, rfl, rfl, ⟨by omega, by omega, by omega⟩, rfl⟩
  case round =>
    obtain ⟨i, rfl, rfl, HK, rfl⟩ := hrel
    obtain ⟨g0, gl, hk⟩ := HK.out
    have hlen : l1.length ≤ 17592186044392 := by
      unfold quarrykit_LentInts.f at h3
      split at h3
      · assumption
      · cases h3
    by_cases c1 : i < (l1.length : Int)
    · obtain ⟨k1, rfl⟩ : ∃ k1, gk = k1 + 1 := ⟨gk - 1, by omega⟩
      have hw1 : IntKind.i64.wrap (i + 1) = i + 1 := by rw [IntKind.wrap_i64]; omega
      have c1b : decide (i < (l1.length : Int)) = true := decide_eq_true (by omega)
      have c1c := eq_true c1
      have h0 := eq_true g0
      obtain ⟨ad0, e1, hx0⟩ := Kd.at_int hr i g0 c1
      cases e1
      have hs := badTo_succ a0 l1 i g0 c1
      have REL : Aside0 (0 ≤ i + 1 ∧ i + 1 ≤ (l1.length : Int) ∧ (i + 1).toNat + k1 = l1.length + 1) := ⟨by omega, by omega, by omega⟩
      clear HK hk hlen c1 g0 gl
      generalize rd l1 i = y at *
      cases hb : badTo a0 l1 i
      · rw [hb, Bool.false_or] at hs
        unfold outside at hs
        by_cases p1 : y < 0
        · have p1b : decide (y < 0) = true := decide_eq_true p1
          rw [p1b, Bool.true_or] at hs
          have HS := Aside0.mk hs
          clear hs p1 hb
          go_wp2
          go_roundg k1
          case measure => omega
          case rel => exact ⟨i + 1, rfl, by rw [HS.out], REL, rfl⟩
        · have p1b : decide (y < 0) = false := decide_eq_false p1
          rw [p1b, Bool.false_or] at hs
          have HS := Aside0.mk hs
          clear hs p1 hb
          go_wp2
          go_roundg k1
          case measure => omega
          case rel => exact ⟨i + 1, rfl, by rw [HS.out], REL, rfl⟩
      · rw [hb, Bool.true_or] at hs
        have HS := Aside0.mk hs
        clear hs hb
        go_wp2
        go_roundg k1
        case measure => omega
        case rel => exact ⟨i + 1, rfl, by rw [HS.out], REL, rfl⟩
    · have c1b : decide (i < (l1.length : Int)) = false := decide_eq_false (by omega)
      obtain rfl : i = (l1.length : Int) := by omega
      rw [HBD.out]
      have k0 : wr.cell? ⟨gB, 0, none⟩ = some (.int .i64 b1) := blk_cell BK 0
      have k1 : wr.cell? ⟨gB, 1, none⟩ = some (.slice AB b2.length cB) := blk_cell BK 1
      have HC := (Kd.R_reads' hB).2
      clear HK hk hlen c1 g0 gl
      cases bad
      · obtain rfl : e0 = 0 := HE.out.trans (if_neg (by decide))
        go_wp2_with (first
          | (go_at_call 5; (with_reducible refine (bitmap_Formed.calls b1 _ _ b2 true _ HC.2 HC.1 h6).mono ?_); rintro e w5 ⟨rfl, hb⟩; have n1_ := below_step HHB.out hb; clear hb k0 k1)
          | fail)
        go_ret
        exact ⟨rfl, n1_⟩
      · obtain rfl : e0 = 2 := HE.out.trans (if_pos rfl)
        go_wp2_with (first
          | (go_at_call 5; (with_reducible refine (bitmap_Formed.calls b1 _ _ b2 true _ HC.2 HC.1 h6).mono ?_); rintro e w5 ⟨rfl, hb⟩; have n1_ := below_step HHB.out hb; clear hb k0 k1)
          | fail)
        go_ret
        exact ⟨rfl, n1_⟩
set_option maxHeartbeats 8000000 in
set_option maxRecDepth 100000 in
theorem makes_small (k : Nat) (a0 : Int) (A1 : Option Addr) (c1 : Nat) (l1 : List Int) (a2_0 : Int) (A2_1 : Option Addr) (c2_1 : Nat) (l2_1 : List Int) (w : World) (hr1 : Kd.C (Kd.int .i64) w A1 l1.length l1) (hc1 : l1.length ≤ c1)
    (hr2_1 : Kd.C (Kd.int .u64) w A2_1 l2_1.length l2_1) (hc2_1 : l2_1.length ≤ c2_1) (x : Bool) (h1 : bitmap_Formed.f a2_0 l2_1 = some x) (h2 : quarryref04_Formed.f k a2_0 l2_1 = some x) (h3 : quarrykit_LentInts.f l1 = some l1) (h4 : quarrykit_KeptInts.f l1 l1 = some true)
    (b1 : Int) (b2 : List Int) (e0 : Int) (q1 : Int) (q2 : List Int) (h7 : quarryref04_Make.f k a0 l1 = some (q1, q2, e0)) (h8 : quarryref00_SameBits.f k b1 b2 q1 q2 = some true) (h5 : bitmap_Make.f k a0 l1 = some (b1, b2, e0)) (h6 : bitmap_Formed.f b1 b2 = some true) (hbig : ¬ 65536 < a0) :
    Calls Try.prog 3 #[.int .i64 a0, .slice A1 l1.length c1, .agg #[.int .i64 a2_0, .slice A2_1 l2_1.length c2_1]] w fun e w' => e = .returned (.bool true) ∧ Below w.heap.size w w' := by
  have hu25 := Try.underlying25
  have HB := Below.refl w.heap.size w
  have hbg : decide (65536 < a0) = false := decide_eq_false hbig
  have hee : (e0 == e0) = true := beq_self_eq_true e0
  clear hbig
  go_enter Try.func3, Try.ntmps3
  go_wp2
  have HB1 : Below w.heap.size w (w.alloc (.cells #[.int .i64 a2_0, .slice A2_1 l2_1.length c2_1] 25 (0, 0))) := below_alloc HB _
  have BK : (w.alloc (.cells #[.int .i64 a2_0, .slice A2_1 l2_1.length c2_1] 25 (0, 0))).heap[w.heap.size]? = some (.cells #[.int .i64 a2_0, .slice A2_1 l2_1.length c2_1] 25 (0, 0)) := blk_new w _
  generalize w.alloc (.cells #[.int .i64 a2_0, .slice A2_1 l2_1.length c2_1] 25 (0, 0)) = W at HB1 BK ⊢
  clear HB
  have HM : MH w W w.heap.size #[.int .i64 a2_0, .slice A2_1 l2_1.length c2_1] := ⟨HB1, BK⟩
  have k0 : W.cell? ⟨w.heap.size, 0, none⟩ = some (.int .i64 a2_0) := blk_cell BK 0
  have k1 : W.cell? ⟨w.heap.size, 1, none⟩ = some (.slice A2_1 l2_1.length c2_1) := blk_cell BK 1
  have hS : W.drew.cell? ⟨w.heap.size, 0, none⟩ = some (.int .i64 a2_0) ∧ W.drew.cell? ⟨w.heap.size, 1, none⟩ = some (.slice A2_1 l2_1.length c2_1) ∧ MH w W.drew w.heap.size #[.int .i64 a2_0, .slice A2_1 l2_1.length c2_1] := ⟨k0, k1, HM.drew⟩
  clear HB1 BK
  have hne : (x != x) = false := bne_self_eq_false x
  go_region_held3 (fun w' => w'.cell? ⟨w.heap.size, 0, none⟩ = some (.int .i64 a2_0) ∧ w'.cell? ⟨w.heap.size, 1, none⟩ = some (.slice A2_1 l2_1.length c2_1) ∧ MH w w' w.heap.size #[.int .i64 a2_0, .slice A2_1 l2_1.length c2_1])
    (first | exact hS | exact keep2 (by assumption) (by assumption) | exact ⟨k0, k1, HM.drew⟩ | exact ⟨k0, k1, HM⟩)
    (first
    | (go_at_call 5; (with_reducible refine (bitmap_Formed.calls a2_0 _ _ l2_1 x _ ?_ hc2_1 h1).mono ?_); (first | exact Kd.C_below hr2_1 HM.drew.r | exact Kd.C_below hr2_1 (MH.r (And.right (And.right (by assumption))))); rintro e w' ⟨rfl, hb⟩)
    | (go_at_call 6; (with_reducible refine (quarryref04_Formed.calls k a2_0 _ _ l2_1 x _ ?_ hc2_1 h2).mono ?_); (first | exact Kd.C_below hr2_1 HM.drew.r | exact Kd.C_below hr2_1 (MH.r (And.right (And.right (by assumption))))); rintro e w' ⟨rfl, hb⟩))
  rename_i hF
  obtain ⟨-, -, HM1⟩ := hF
  have HB := HM1.r
  clear HM1 hb HM hS k0 k1 hne
  go_wp2_with (first
    | (go_at_call 7; (with_reducible refine (quarrykit_LentInts.calls A1 _ l1 l1 _ (Kd.C_below hr1 HB) hc1 h3).mono ?_); rintro e w2 ⟨vL, rfl, hL, hb⟩; have n1_ := below_step HB hb; obtain ⟨AL, cL, rfl⟩ := LK.R_slice hL; have HL := LK.R_lower hL (HB.size); clear HB hb hL; have HB := n1_; clear n1_; obtain ⟨i0, hi0, _, _, _⟩ := info_parts lent_info3; have hcc := (LK.R_reads' HL).2.1; have hcut := cut_past (P := Try.prog) 22 3 .i64 Try.underlying22 hi0 AL l1.length cL (l1.length : Int) (by omega) (by omega); rw [Int.toNat_natCast] at hcut; clear hi0)
    | (go_at_call 8; (with_reducible refine (bitmap_Make.calls k a0 AL cL l1 b1 b2 _ _ (LK.R_reads' HL).2.2 hcc h5).mono ?_); rintro e w3 ⟨vB, rfl, hB, hb⟩; have n1_ := below_step HB hb; have n2_ := LK.R_elder' HL (Kd.R_base hB) hb; obtain ⟨AB, cB, rfl⟩ := Kd.R_slice hB; have n3_ := Kd.R_lower hB (HB.size); clear HB hb HL hB hcut; have HB := n1_; have HL := n2_; have hB := n3_; clear n1_ n2_ n3_)
    | fail)
  have HB2 : Below w.heap.size w (w3.alloc (.cells #[.int .i64 b1, .slice AB b2.length cB] 25 (0, 0))) := below_alloc HB _
  have BK : (w3.alloc (.cells #[.int .i64 b1, .slice AB b2.length cB] 25 (0, 0))).heap[w3.heap.size]? = some (.cells #[.int .i64 b1, .slice AB b2.length cB] 25 (0, 0)) := blk_new w3 _
  have HL2 := LK.R_alloc HL (.cells #[.int .i64 b1, .slice AB b2.length cB] 25 (0, 0))
  have hB2 := Kd.R_alloc hB (.cells #[.int .i64 b1, .slice AB b2.length cB] 25 (0, 0))
  have hgB : w.heap.size ≤ w3.heap.size := HB.size
  clear HB HL hB
  generalize w3.alloc (.cells #[.int .i64 b1, .slice AB b2.length cB] 25 (0, 0)) = W3 at *
  generalize w3.heap.size = gB at *
  go_wp2_with (first
    | (go_at_call 9; (with_reducible refine (quarrykit_KeptInts.calls AL cL l1 A1 c1 l1 true _ (LK.C_of HL2) hcc (Kd.C_below hr1 HB2) hc1 h4).mono ?_); rintro e w4 ⟨rfl, hb⟩; have n1_ := below_step HB2 hb; have n2_ := Kd.R_below hB2 hb; have n3_ := blk_below BK hb; clear HB2 HL2 hb hB2 BK; have HB := n1_; have hB := n2_; have BK := n3_; clear n1_ n2_ n3_)
    | (go_at_call 10; (with_reducible refine (quarryref04_Make.calls k a0 A1 c1 l1 q1 q2 e0 _ (Kd.C_below hr1 HB) hc1 h7).mono ?_); rintro e w5 ⟨vQ, rfl, hQ, hb⟩; obtain ⟨AQ, cQ, rfl⟩ := Kd.R_slice hQ; have n1_ := below_alloc (below_step HB hb) (o := .cells #[.int .i64 q1, .slice AQ q2.length cQ] 25 (0, 0)); have n2_ := (Kd.R_reads' (Kd.R_alloc (Kd.R_below hB hb) (.cells #[.int .i64 q1, .slice AQ q2.length cQ] 25 (0, 0)))).2; have n3_ := blk_alloc (blk_below BK hb) (.cells #[.int .i64 q1, .slice AQ q2.length cQ] 25 (0, 0)); have n4_ := (Kd.R_reads' (Kd.R_alloc hQ (.cells #[.int .i64 q1, .slice AQ q2.length cQ] 25 (0, 0)))).2; clear HB hB BK hb hQ; have HB := n1_; have hB := n2_; have BK := n3_; have hQ := n4_; clear n1_ n2_ n3_ n4_; have k0 := (blk_cell BK 0).trans rfl; have k1 := (blk_cell BK 1).trans rfl)
    | (go_at_call 11; (with_reducible refine (quarryref00_SameBits.calls k b1 _ _ b2 q1 _ _ q2 true _ hB.2 hB.1 hQ.2 hQ.1 h8).mono ?_); rintro e w6 ⟨rfl, hb⟩; have n1_ := below_step HB hb; have n2_ := And.intro hB.1 (Kd.C_below hB.2 hb); have n3_ := blk_below BK hb; clear HB hB BK hb k0 k1; have HB := n1_; have hB := n2_; have BK := n3_; clear n1_ n2_ n3_; have k0 := (blk_cell BK 0).trans rfl; have k1 := (blk_cell BK 1).trans rfl)
    | (go_at_call 5; (with_reducible refine (bitmap_Formed.calls b1 _ _ b2 true _ hB.2 hB.1 h6).mono ?_); rintro e w7 ⟨rfl, hb⟩; have n1_ := below_step HB hb; clear HB hB BK hb k0 k1; have HB := n1_; clear n1_)
    | fail)
  go_ret
  exact ⟨rfl, HB⟩
/-- All that the law asks, of the functions' answers. -/
def quarrylaw04_BitmapMakes.Good (k : Nat) (a0 : Int) (l1 : List Int) (a2_0 : Int) (l2_1 : List Int) : Prop := ∃ x b1 b2 e0, bitmap_Formed.f a2_0 l2_1 = some x ∧ quarryref04_Formed.f k a2_0 l2_1 = some x ∧ quarrykit_LentInts.f l1 = some l1 ∧ quarrykit_KeptInts.f l1 l1 = some true ∧
  bitmap_Make.f k a0 l1 = some (b1, b2, e0) ∧ bitmap_Formed.f b1 b2 = some true ∧ (65536 < a0 → e0 = if (decide (16777216 < a0) || l1.any (outside a0)) = true then 2 else 0) ∧
  (¬ 65536 < a0 → ∃ q1 q2, quarryref04_Make.f k a0 l1 = some (q1, q2, e0) ∧ quarryref00_SameBits.f k b1 b2 q1 q2 = some true)
open Classical in
noncomputable def quarrylaw04_BitmapMakes.f (k : Nat) (a0 : Int) (l1 : List Int) (a2_0 : Int) (l2_1 : List Int) : Option Bool := if quarrylaw04_BitmapMakes.Good k a0 l1 a2_0 l2_1 then some true else none
theorem quarrylaw04_BitmapMakes.calls (k : Nat) (a0 : Int) (A1 : Option Addr) (c1 : Nat) (l1 : List Int) (a2_0 : Int) (A2_1 : Option Addr) (c2_1 : Nat) (l2_1 : List Int) (r : Bool) (w : World) (hr1 : Kd.C (Kd.int .i64) w A1 l1.length l1) (hc1 : l1.length ≤ c1)
    (hr2_1 : Kd.C (Kd.int .u64) w A2_1 l2_1.length l2_1) (hc2_1 : l2_1.length ≤ c2_1) (h : quarrylaw04_BitmapMakes.f k a0 l1 a2_0 l2_1 = some r) :
    Calls Try.prog 3 #[.int .i64 a0, .slice A1 l1.length c1, .agg #[.int .i64 a2_0, .slice A2_1 l2_1.length c2_1]] w fun e w' => e = .returned (.bool r) ∧ Below w.heap.size w w' := by
  unfold quarrylaw04_BitmapMakes.f at h
  split at h
  · rename_i hg
    obtain rfl := Option.some.inj h
    obtain ⟨x, b1, b2, e0, h1, h2, h3, h4, h5, h6, h7, h8⟩ := hg
    by_cases hb : 65536 < a0
    · exact makes_big k a0 A1 c1 l1 a2_0 A2_1 c2_1 l2_1 w hr1 hc1 hr2_1 hc2_1 x h1 h2 h3 h4 b1 b2 e0 _ (h7 hb) rfl h5 h6 hb
    · obtain ⟨q1, q2, g1, g2⟩ := h8 hb
      exact makes_small k a0 A1 c1 l1 a2_0 A2_1 c2_1 l2_1 w hr1 hc1 hr2_1 hc2_1 x h1 h2 h3 h4 b1 b2 e0 q1 q2 g1 g2 h5 h6 hb
  · cases h
end Go.Proofs.Ytahmpmlbonpabaa.PBitmapMakes
