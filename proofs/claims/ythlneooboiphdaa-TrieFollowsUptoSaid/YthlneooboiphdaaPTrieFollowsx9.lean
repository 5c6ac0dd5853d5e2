/- The machine side of a statement, laid by the kit's print program, run by wip/tools/gprint.py: some functions' contracts are given, proved by hand. -/
import Derived.Test.YthlneooboiphdaaPTrieFollowsx0
import Derived.Test.YthlneooboiphdaaTrieFollowsBuildV
import Derived.Test.YthlneooboiphdaaPTrieFollowsx3
import Derived.Test.YthlneooboiphdaaPTrieFollowsx4
import Derived.Test.YthlneooboiphdaaPTrieFollowsx8
namespace Go.Proofs.Ythlneooboiphdaa.PTrieFollows
open Go.RowKit Go.Proofs.YthlneooboiphdaaW.PrintWords Go.Proofs.YthlneooboiphdaaW.PrintLast Go.Proofs.YthlneooboiphdaaW.PrintMore
attribute [local go_sem] max2_int min2_int max_two min_two max_three min_three max_four min_four   -- for this text's walks alone
set_option linter.unusedVariables false
set_option linter.unusedSimpArgs false

/-! ### quarrylaw23_TrieFollows: function 8 -/
mutual
def quarrylaw23_TrieFollows.l0 : Nat → List (List (S53)) → List (S38) → List (S50) → List Int → Int → Option (Bool)
  | 0, _, _, _, _, _ => none
  | k + 1, x0, x1, x5, x7, x8 => if x8 < (x1.length : Int) then (quarrylaw23_TrieFollows.l1 k x0 x1 x5 x7 x8 ([] : List Int) 0) else (quarrylaw23_TrieFollows.l2 k x0 x1 x5 x7 ([] : List Int) 0)
def quarrylaw23_TrieFollows.l1 : Nat → List (List (S53)) → List (S38) → List (S50) → List Int → Int → List Int → Int → Option (Bool)
  | 0, _, _, _, _, _, _, _ => none
  | k + 1, x0, x1, x5, x7, x8, x9, x10 => if x10 < (x7.length : Int) then (if 0 ≤ x10 then (if 0 ≤ x8 then (if x8 < (x1.length : Int) then ((trie_Go.f k x5 (rd x7 x10) ((rd_T38 x1 x8).f1) ((rd_T38 x1 x8).f2) ((rd_T38 x1 x8).f3)).bind fun bt262 => (if bt262.2 = 0 then (if x9.length + bt262.1.length < 17592186044416 then (quarrylaw23_TrieFollows.l1 k x0 x1 x5 x7 x8 (x9 ++ bt262.1) (wrap64 (x10 + 1))) else (none)) else (none))) else (none)) else (none)) else (none)) else (quarrylaw23_TrieFollows.l0 k x0 x1 x5 x9 (wrap64 (x8 + 1)))
def quarrylaw23_TrieFollows.l2 : Nat → List (List (S53)) → List (S38) → List (S50) → List Int → List Int → Int → Option (Bool)
  | 0, _, _, _, _, _, _ => none
  | k + 1, x0, x1, x5, x7, x13, x14 => if x14 < (x7.length : Int) then (if 0 ≤ x14 then (if (rd x7 x14) < 0 then (none) else (if (rd x7 x14) ≥ (x5.length : Int) then (none) else (if 0 ≤ (rd x7 x14) then (if (rd x7 x14) < (x5.length : Int) then (if x13.length + ((rd_T50 x5 (rd x7 x14)).f2).length < 17592186044416 then (quarrylaw23_TrieFollows.l2 k x0 x1 x5 x7 (x13 ++ ((rd_T50 x5 (rd x7 x14)).f2)) (wrap64 (x14 + 1))) else (none)) else (none)) else (none)))) else (none)) else (quarrylaw23_TrieFollows.l3 k x0 x1 x13 0 0)
def quarrylaw23_TrieFollows.l3 : Nat → List (List (S53)) → List (S38) → List Int → Int → Int → Option (Bool)
  | 0, _, _, _, _, _ => none
  | k + 1, x0, x1, x13, x15, x16 => if x16 < (x0.length : Int) then (if 0 ≤ x16 then (quarrylaw23_TrieFollows.l4 k x0 x1 x13 x15 x16 (((rd_L3 x0 x16).length : Int) == (x1.length : Int)) 0) else (none)) else (some (x15 == (x13.length : Int)))
def quarrylaw23_TrieFollows.j5 : Nat → List (List (S53)) → List (S38) → List Int → Int → Int → Bool → Option (Bool)
  | 0, _, _, _, _, _, _ => none
  | k + 1, x0, x1, x13, x15, x16, x17 => (quarryref00_HasInt.f k x13 x16).bind fun t283 => (if (x17 != t283) = true then (none) else (if x17 = true then (quarrylaw23_TrieFollows.l3 k x0 x1 x13 (wrap64 (x15 + 1)) (wrap64 (x16 + 1))) else (quarrylaw23_TrieFollows.l3 k x0 x1 x13 x15 (wrap64 (x16 + 1)))))
def quarrylaw23_TrieFollows.l4 : Nat → List (List (S53)) → List (S38) → List Int → Int → Int → Bool → Int → Option (Bool)
  | 0, _, _, _, _, _, _, _ => none
  | k + 1, x0, x1, x13, x15, x16, x17, x18 => if x17 = true then (if x18 < (x1.length : Int) then (if 0 ≤ x16 then (if x16 < (x0.length : Int) then (if 0 ≤ x18 then (if x18 < ((rd_L3 x0 x16).length : Int) then ((path_Takes.f ((rd_T53 (rd_L3 x0 x16) x18).f0) ((rd_T53 (rd_L3 x0 x16) x18).f1) ((rd_T53 (rd_L3 x0 x16) x18).f2) ((rd_T38 x1 x18).f1) ((rd_T38 x1 x18).f2) ((rd_T38 x1 x18).f3)).bind fun t282 => (quarrylaw23_TrieFollows.l4 k x0 x1 x13 x15 x16 t282 (wrap64 (x18 + 1)))) else (none)) else (none)) else (none)) else (none)) else (quarrylaw23_TrieFollows.j5 k x0 x1 x13 x15 x16 x17)) else (quarrylaw23_TrieFollows.j5 k x0 x1 x13 x15 x16 x17)
end
def quarrylaw23_TrieFollows.f (k : Nat) (l0 : List (List (S53))) (l1 : List (S38)) : Option (Bool) := (quarrylaw23_awake.f k).bind fun t250 => (if t250 = true then ((trie_Build.f l0).bind fun bt251 => (if bt251.2 = 0 then (quarrylaw23_TrieFollows.l0 k l0 l1 bt251.1 (([0] : List Int)) 0) else (some true))) else (none))
theorem quarrylaw23_TrieFollows.mono_l : ∀ k, (∀ y0 y1 y2 y3 y4, LeO (quarrylaw23_TrieFollows.l0 k y0 y1 y2 y3 y4) (quarrylaw23_TrieFollows.l0 (k + 1) y0 y1 y2 y3 y4)) ∧ (∀ y0 y1 y2 y3 y4 y5 y6, LeO (quarrylaw23_TrieFollows.l1 k y0 y1 y2 y3 y4 y5 y6) (quarrylaw23_TrieFollows.l1 (k + 1) y0 y1 y2 y3 y4 y5 y6)) ∧ (∀ y0 y1 y2 y3 y4 y5, LeO (quarrylaw23_TrieFollows.l2 k y0 y1 y2 y3 y4 y5) (quarrylaw23_TrieFollows.l2 (k + 1) y0 y1 y2 y3 y4 y5)) ∧ (∀ y0 y1 y2 y3 y4, LeO (quarrylaw23_TrieFollows.l3 k y0 y1 y2 y3 y4) (quarrylaw23_TrieFollows.l3 (k + 1) y0 y1 y2 y3 y4)) ∧ (∀ y0 y1 y2 y3 y4 y5, LeO (quarrylaw23_TrieFollows.j5 k y0 y1 y2 y3 y4 y5) (quarrylaw23_TrieFollows.j5 (k + 1) y0 y1 y2 y3 y4 y5)) ∧ (∀ y0 y1 y2 y3 y4 y5 y6, LeO (quarrylaw23_TrieFollows.l4 k y0 y1 y2 y3 y4 y5 y6) (quarrylaw23_TrieFollows.l4 (k + 1) y0 y1 y2 y3 y4 y5 y6))
  | 0 => ⟨fun _ _ _ _ _ r h => by simp [quarrylaw23_TrieFollows.l0] at h, fun _ _ _ _ _ _ _ r h => by simp [quarrylaw23_TrieFollows.l1] at h, fun _ _ _ _ _ _ r h => by simp [quarrylaw23_TrieFollows.l2] at h, fun _ _ _ _ _ r h => by simp [quarrylaw23_TrieFollows.l3] at h, fun _ _ _ _ _ _ r h => by simp [quarrylaw23_TrieFollows.j5] at h, fun _ _ _ _ _ _ _ r h => by simp [quarrylaw23_TrieFollows.l4] at h⟩
  | k + 1 => by
    obtain ⟨ih0, ih1, ih2, ih3, ih4, ih5⟩ := quarrylaw23_TrieFollows.mono_l k; refine ⟨?_, ?_, ?_, ?_, ?_, ?_⟩
    · intro y0 y1 y2 y3 y4
      unfold quarrylaw23_TrieFollows.l0
      repeat' first
      | (with_reducible exact ih0 _ _ _ _ _)
      | (with_reducible exact ih1 _ _ _ _ _ _ _)
      | (with_reducible exact ih2 _ _ _ _ _ _)
      | (with_reducible exact ih3 _ _ _ _ _)
      | (with_reducible exact ih4 _ _ _ _ _ _)
      | (with_reducible exact ih5 _ _ _ _ _ _ _)
      | (with_reducible exact quarrylaw23_awake.mono _)
      | (with_reducible exact quarryref00_HasInt.mono _ _ _)
      | (with_reducible exact trie_Go.mono _ _ _ _ _ _)
      | (with_reducible exact LeO.refl _)
      | (with_reducible exact LeO.none _)
      | (with_reducible refine LeO.ite ?_ ?_)
      | (with_reducible refine LeO.bind ?_ (fun _ => ?_))
      | exact ih0 _ _ _ _ _
      | exact ih1 _ _ _ _ _ _ _
      | exact ih2 _ _ _ _ _ _
      | exact ih3 _ _ _ _ _
      | exact ih4 _ _ _ _ _ _
      | exact ih5 _ _ _ _ _ _ _
      | exact quarrylaw23_awake.mono _
      | exact quarryref00_HasInt.mono _ _ _
      | exact trie_Go.mono _ _ _ _ _ _
      | exact LeO.none _
      | refine LeO.ite ?_ ?_
      | refine LeO.bind ?_ (fun _ => ?_)
    · intro y0 y1 y2 y3 y4 y5 y6
      unfold quarrylaw23_TrieFollows.l1
      repeat' first
      | (with_reducible exact ih0 _ _ _ _ _)
      | (with_reducible exact ih1 _ _ _ _ _ _ _)
      | (with_reducible exact ih2 _ _ _ _ _ _)
      | (with_reducible exact ih3 _ _ _ _ _)
      | (with_reducible exact ih4 _ _ _ _ _ _)
      | (with_reducible exact ih5 _ _ _ _ _ _ _)
      | (with_reducible exact quarrylaw23_awake.mono _)
      | (with_reducible exact quarryref00_HasInt.mono _ _ _)
      | (with_reducible exact trie_Go.mono _ _ _ _ _ _)
      | (with_reducible exact LeO.refl _)
      | (with_reducible exact LeO.none _)
      | (with_reducible refine LeO.ite ?_ ?_)
      | (with_reducible refine LeO.bind ?_ (fun _ => ?_))
      | exact ih0 _ _ _ _ _
      | exact ih1 _ _ _ _ _ _ _
      | exact ih2 _ _ _ _ _ _
      | exact ih3 _ _ _ _ _
      | exact ih4 _ _ _ _ _ _
      | exact ih5 _ _ _ _ _ _ _
      | exact quarrylaw23_awake.mono _
      | exact quarryref00_HasInt.mono _ _ _
      | exact trie_Go.mono _ _ _ _ _ _
      | exact LeO.none _
      | refine LeO.ite ?_ ?_
      | refine LeO.bind ?_ (fun _ => ?_)
    · intro y0 y1 y2 y3 y4 y5
      unfold quarrylaw23_TrieFollows.l2
      repeat' first
      | (with_reducible exact ih0 _ _ _ _ _)
      | (with_reducible exact ih1 _ _ _ _ _ _ _)
      | (with_reducible exact ih2 _ _ _ _ _ _)
      | (with_reducible exact ih3 _ _ _ _ _)
      | (with_reducible exact ih4 _ _ _ _ _ _)
      | (with_reducible exact ih5 _ _ _ _ _ _ _)
      | (with_reducible exact quarrylaw23_awake.mono _)
      | (with_reducible exact quarryref00_HasInt.mono _ _ _)
      | (with_reducible exact trie_Go.mono _ _ _ _ _ _)
      | (with_reducible exact LeO.refl _)
      | (with_reducible exact LeO.none _)
      | (with_reducible refine LeO.ite ?_ ?_)
      | (with_reducible refine LeO.bind ?_ (fun _ => ?_))
      | exact ih0 _ _ _ _ _
      | exact ih1 _ _ _ _ _ _ _
      | exact ih2 _ _ _ _ _ _
      | exact ih3 _ _ _ _ _
      | exact ih4 _ _ _ _ _ _
      | exact ih5 _ _ _ _ _ _ _
      | exact quarrylaw23_awake.mono _
      | exact quarryref00_HasInt.mono _ _ _
      | exact trie_Go.mono _ _ _ _ _ _
      | exact LeO.none _
      | refine LeO.ite ?_ ?_
      | refine LeO.bind ?_ (fun _ => ?_)
    · intro y0 y1 y2 y3 y4
      unfold quarrylaw23_TrieFollows.l3
      repeat' first
      | (with_reducible exact ih0 _ _ _ _ _)
      | (with_reducible exact ih1 _ _ _ _ _ _ _)
      | (with_reducible exact ih2 _ _ _ _ _ _)
      | (with_reducible exact ih3 _ _ _ _ _)
      | (with_reducible exact ih4 _ _ _ _ _ _)
      | (with_reducible exact ih5 _ _ _ _ _ _ _)
      | (with_reducible exact quarrylaw23_awake.mono _)
      | (with_reducible exact quarryref00_HasInt.mono _ _ _)
      | (with_reducible exact trie_Go.mono _ _ _ _ _ _)
      | (with_reducible exact LeO.refl _)
      | (with_reducible exact LeO.none _)
      | (with_reducible refine LeO.ite ?_ ?_)
      | (with_reducible refine LeO.bind ?_ (fun _ => ?_))
      | exact ih0 _ _ _ _ _
      | exact ih1 _ _ _ _ _ _ _
      | exact ih2 _ _ _ _ _ _
      | exact ih3 _ _ _ _ _
      | exact ih4 _ _ _ _ _ _
      | exact ih5 _ _ _ _ _ _ _
      | exact quarrylaw23_awake.mono _
      | exact quarryref00_HasInt.mono _ _ _
      | exact trie_Go.mono _ _ _ _ _ _
      | exact LeO.none _
      | refine LeO.ite ?_ ?_
      | refine LeO.bind ?_ (fun _ => ?_)
    · intro y0 y1 y2 y3 y4 y5
      unfold quarrylaw23_TrieFollows.j5
      repeat' first
      | (with_reducible exact ih0 _ _ _ _ _)
      | (with_reducible exact ih1 _ _ _ _ _ _ _)
      | (with_reducible exact ih2 _ _ _ _ _ _)
      | (with_reducible exact ih3 _ _ _ _ _)
      | (with_reducible exact ih4 _ _ _ _ _ _)
      | (with_reducible exact ih5 _ _ _ _ _ _ _)
      | (with_reducible exact quarrylaw23_awake.mono _)
      | (with_reducible exact quarryref00_HasInt.mono _ _ _)
      | (with_reducible exact trie_Go.mono _ _ _ _ _ _)
      | (with_reducible exact LeO.refl _)
      | (with_reducible exact LeO.none _)
      | (with_reducible refine LeO.ite ?_ ?_)
      | (with_reducible refine LeO.bind ?_ (fun _ => ?_))
      | exact ih0 _ _ _ _ _
      | exact ih1 _ _ _ _ _ _ _
      | exact ih2 _ _ _ _ _ _
      | exact ih3 _ _ _ _ _
      | exact ih4 _ _ _ _ _ _
      | exact ih5 _ _ _ _ _ _ _
      | exact quarrylaw23_awake.mono _
      | exact quarryref00_HasInt.mono _ _ _
      | exact trie_Go.mono _ _ _ _ _ _
      | exact LeO.none _
      | refine LeO.ite ?_ ?_
      | refine LeO.bind ?_ (fun _ => ?_)
    · intro y0 y1 y2 y3 y4 y5 y6
      unfold quarrylaw23_TrieFollows.l4
      repeat' first
      | (with_reducible exact ih0 _ _ _ _ _)
      | (with_reducible exact ih1 _ _ _ _ _ _ _)
      | (with_reducible exact ih2 _ _ _ _ _ _)
      | (with_reducible exact ih3 _ _ _ _ _)
      | (with_reducible exact ih4 _ _ _ _ _ _)
      | (with_reducible exact ih5 _ _ _ _ _ _ _)
      | (with_reducible exact quarrylaw23_awake.mono _)
      | (with_reducible exact quarryref00_HasInt.mono _ _ _)
      | (with_reducible exact trie_Go.mono _ _ _ _ _ _)
      | (with_reducible exact LeO.refl _)
      | (with_reducible exact LeO.none _)
      | (with_reducible refine LeO.ite ?_ ?_)
      | (with_reducible refine LeO.bind ?_ (fun _ => ?_))
      | exact ih0 _ _ _ _ _
      | exact ih1 _ _ _ _ _ _ _
      | exact ih2 _ _ _ _ _ _
      | exact ih3 _ _ _ _ _
      | exact ih4 _ _ _ _ _ _
      | exact ih5 _ _ _ _ _ _ _
      | exact quarrylaw23_awake.mono _
      | exact quarryref00_HasInt.mono _ _ _
      | exact trie_Go.mono _ _ _ _ _ _
      | exact LeO.none _
      | refine LeO.ite ?_ ?_
      | refine LeO.bind ?_ (fun _ => ?_)
theorem quarrylaw23_TrieFollows.mono : ∀ a0 a1 k, LeO (quarrylaw23_TrieFollows.f k a0 a1) (quarrylaw23_TrieFollows.f (k + 1) a0 a1) := by
  intro a0 a1 k; obtain ⟨ih0, ih1, ih2, ih3, ih4, ih5⟩ := quarrylaw23_TrieFollows.mono_l k
  unfold quarrylaw23_TrieFollows.f
  repeat' first
      | (with_reducible exact ih0 _ _ _ _ _)
      | (with_reducible exact ih1 _ _ _ _ _ _ _)
      | (with_reducible exact ih2 _ _ _ _ _ _)
      | (with_reducible exact ih3 _ _ _ _ _)
      | (with_reducible exact ih4 _ _ _ _ _ _)
      | (with_reducible exact ih5 _ _ _ _ _ _ _)
      | (with_reducible exact quarrylaw23_awake.mono _)
      | (with_reducible exact quarryref00_HasInt.mono _ _ _)
      | (with_reducible exact trie_Go.mono _ _ _ _ _ _)
      | (with_reducible exact LeO.refl _)
      | (with_reducible exact LeO.none _)
      | (with_reducible refine LeO.ite ?_ ?_)
      | (with_reducible refine LeO.bind ?_ (fun _ => ?_))
      | exact ih0 _ _ _ _ _
      | exact ih1 _ _ _ _ _ _ _
      | exact ih2 _ _ _ _ _ _
      | exact ih3 _ _ _ _ _
      | exact ih4 _ _ _ _ _ _
      | exact ih5 _ _ _ _ _ _ _
      | exact quarrylaw23_awake.mono _
      | exact quarryref00_HasInt.mono _ _ _
      | exact trie_Go.mono _ _ _ _ _ _
      | exact LeO.none _
      | refine LeO.ite ?_ ?_
      | refine LeO.bind ?_ (fun _ => ?_)
def quarrylaw23_TrieFollows.T14 : Bool × List (List Nat × List Nat) := (true, [([], []), ([], []), ([], []), ([1, 2], [1, 2]), ([3], [3]), ([], []), ([], []), ([5, 6], [5, 6]), ([7], [7]), ([8], [8]), ([], []), ([], []), ([10, 11], [10, 11]), ([12], [12]), ([13], [13]), ([], []), ([], []), ([15, 16], [15, 16]), ([17], [17]), ([18], [18]), ([0, 4, 9, 14, 19], [0, 4, 9, 14, 19]), ([20], [20]), ([21], [21]), ([21], [21]), ([22, 20, 0, 1, 2, 3, 4, 5, 6, 7, 8, 9, 10, 11, 12, 13, 14, 15, 16, 17, 18, 19, 20, 21, 22], [22]), ([23, 24, 0, 1, 2, 3, 4, 5, 6, 7, 8, 9, 10, 11, 12, 13, 14, 15, 16, 17, 18, 19, 20, 21, 22, 23, 24], [23])])
def quarrylaw23_TrieFollows.B14 : List Nat := [0, 0, 0, 6, 14, 0, 0, 96, 224, 480, 0, 0, 3072, 7168, 15360, 0, 0, 98304, 229376, 491520, 1048575, 2097151, 4194303, 4194303, 8388607, 33554431]
theorem quarrylaw23_TrieFollows.tab14 : rtab .any (opsOf Try.f8 14) = quarrylaw23_TrieFollows.T14 := by kernel_rfl
theorem quarrylaw23_TrieFollows.bits14 : waitsOk quarrylaw23_TrieFollows.T14.2 quarrylaw23_TrieFollows.B14 = true := by kernel_rfl
def quarrylaw23_TrieFollows.T34 : Bool × List (List Nat × List Nat) := (true, [([], []), ([], []), ([0, 1], [0, 1]), ([2], [2]), ([], []), ([3, 4], [3, 4]), ([5], [5]), ([], []), ([], []), ([7, 8], [7, 8]), ([9], [9]), ([10], [10]), ([], []), ([], []), ([12, 13], [12, 13]), ([14], [14]), ([15], [15]), ([], []), ([], []), ([17, 18], [17, 18]), ([19], [19]), ([20], [20]), ([6, 11, 16, 21], [6, 11, 16, 21]), ([22, 22, 0, 1, 2, 3, 4, 5, 6, 7, 8, 9, 10, 11, 12, 13, 14, 15, 16, 17, 18, 19, 20, 21, 22], [22])])
def quarrylaw23_TrieFollows.B34 : List Nat := [0, 0, 3, 7, 0, 31, 63, 0, 0, 384, 896, 1920, 0, 0, 12288, 28672, 61440, 0, 0, 393216, 917504, 1966080, 4194303, 8388607]
theorem quarrylaw23_TrieFollows.tab34 : rtab .any (opsOf Try.f8 34) = quarrylaw23_TrieFollows.T34 := by kernel_rfl
theorem quarrylaw23_TrieFollows.bits34 : waitsOk quarrylaw23_TrieFollows.T34.2 quarrylaw23_TrieFollows.B34 = true := by kernel_rfl
set_option maxHeartbeats 8000000 in
set_option maxRecDepth 100000 in
theorem quarrylaw23_TrieFollows.calls (k : Nat) (A0 : Option Addr) (c0 : Nat) (l0 : List (List (S53))) (A1 : Option Addr) (c1 : Nat) (l1 : List (S38)) (r : Bool) (w : World) (hr0 : Kd.C (Kd.slice 53 k53) w A0 l0.length l0) (hc0 : l0.length ≤ c0) (hr1 : Kd.C k38 w A1 l1.length l1) (hc1 : l1.length ≤ c1) (h : quarrylaw23_TrieFollows.f k l0 l1 = some r) :
    Calls Try.prog 8 #[.slice A0 l0.length c0, .slice A1 l1.length c1] w fun e w' => e = .returned (.bool r) ∧ Below w.heap.size w w' := by
  have hu53 := Try.underlying53; have HR0 := Aside0.mk hr0; have HC0 := Aside0.mk hc0; clear hr0 hc0; have HR1 := Aside0.mk hr1; have HC1 := Aside0.mk hc1; clear hr1 hc1; have HB := Aside0.mk (Below.refl w.heap.size w); have H : ((quarrylaw23_awake.f k).bind fun t250 => (if t250 = true then ((trie_Build.f l0).bind fun bt251 => (if bt251.2 = 0 then (quarrylaw23_TrieFollows.l0 k l0 l1 bt251.1 (([0] : List Int)) 0) else (some true))) else (none))) = some r := h; clear h; replace H := Option.bind_eq_some_iff.mp H; obtain ⟨t250, A30, H⟩ := H; replace H : (if t250 = true then ((trie_Build.f l0).bind fun bt251 => (if bt251.2 = 0 then (quarrylaw23_TrieFollows.l0 k l0 l1 bt251.1 (([0] : List Int)) 0) else (some true))) else (none)) = some r := H; have A3 := Aside0.mk A30; clear A30
  by_cases c4 : t250 = true
  · subst c4
    have H1 : ((trie_Build.f l0).bind fun bt251 => (if bt251.2 = 0 then (quarrylaw23_TrieFollows.l0 k l0 l1 bt251.1 (([0] : List Int)) 0) else (some true))) = some r := by rw [if_pos rfl] at H; exact H
    clear H; have H := H1; clear H1; replace H := Option.bind_eq_some_iff.mp H; obtain ⟨⟨t251, t252⟩, A50, H⟩ := H; replace H : (if t252 = 0 then (quarrylaw23_TrieFollows.l0 k l0 l1 t251 (([0] : List Int)) 0) else (some true)) = some r := H; have A5 := Aside0.mk A50; clear A50
    by_cases c6 : t252 = 0
    · rw [if_pos c6] at H; have c6b0 : (t252 == 0) = true := beq_iff_eq.mpr c6; have c6b1 : (t252 != 0) = false := bne_eq_false_iff_eq.mpr c6; clear c6; obtain ⟨y255, hy255⟩ : ∃ y_ : List Int, y_ = (([0] : List Int)) := ⟨_, rfl⟩
      replace H : (quarrylaw23_TrieFollows.l0 k l0 l1 t251 y255 0) = some r := by first | (rw [hy255]; with_reducible exact H) | (have H2_ := (Option.bind_some _ _).symm.trans H; rw [hy255]; with_reducible exact H2_) | (have H2_ := (Option.bind_some _ _).symm.trans H; with_reducible exact H2_) | with_reducible exact H | (rw [hy255]; exact H) | exact H
      have Ny255 := Aside0.mk hy255; clear hy255; have H' := Aside0.mk H; clear H
      go_enter Try.func8, Try.ntmps8
      go_wp2_with (first | ((with_reducible refine gate_callee (f := 25) rfl ?_); refine goesL_ (some 19) rfl rfl Try.func25 (by kernel_rfl) rfl #[] rfl (by (try simp only [List.map_toArray, List.map_cons, List.map_nil]); first | done | rfl | (simp only [List.length_drop, List.length_take]; rfl)) ?_; (with_reducible refine (quarrylaw23_awake.calls k  true _ A3.out).mono ?_); rintro e w7 ⟨rfl, hb⟩; refine ⟨_, rfl, ?_⟩; have n0_ := Aside0.mk (below_step (by repeat (first | (with_reducible first | exact HB.out | apply below_alloc | apply pw_below_drewN | apply below_drew1) | exact HB.out)) hb); clear HB; have HB := n0_; clear n0_; (try clear hb); (try clear hb2); (try clear hk); (try clear hi)) | ((with_reducible refine gate_callee (f := 10) rfl ?_); refine goesL_ (some 23) rfl rfl Try.func10 (by kernel_rfl) rfl #[.slice A0 l0.length c0] rfl (by (try simp only [List.map_toArray, List.map_cons, List.map_nil]); first | done | rfl | (simp only [List.length_drop, List.length_take]; rfl)) ?_; (with_reducible refine (trie_Build.calls _ _ l0 t251 t252 _ ?side1 ?side2 A5.out).mono ?_); (case side1 => repeat (first | exact (Kd.C_below HR0.out HB.out) | (with_reducible refine Kd.C_alloc ?_ _) | (with_reducible refine Kd.C_drewN ?_ _) | (with_reducible refine Kd.C_drew ?_))); (case side2 => exact HC0.out); rintro e w8 ⟨v253, rfl, ho0, hb⟩; refine ⟨_, rfl, ?_⟩; have n0_ := Aside0.mk (Kd.S_lower ho0 (below_size (by repeat (first | (with_reducible first | exact HB.out | apply below_alloc | apply pw_below_drewN | apply below_drew1) | exact HB.out)))); have n1_ := Aside0.mk (below_step (by repeat (first | (with_reducible first | exact HB.out | apply below_alloc | apply pw_below_drewN | apply below_drew1) | exact HB.out)) hb); clear HB; have HO254 := n0_; have HB := n1_; clear n0_ n1_; (try clear hb); (try clear hb2); (try clear hk); (try clear hi); (try clear ho0)) | ((with_reducible refine gate_dst (N := 28) rfl ?_); (try (refine gate_guard (by rfl) ?_; dsimp only)); refine Kd.R_lit (Kd.int .i64) _ 3 ?hg (N := 28) ?hd (xs := ([0] : List Int)) (inner := [.int .i64 0]) (ok := fun _ => True) (okp := fun _ => True) ?hr ?hp (fun _ hk => hk) trivial (Below.refl _ _) (Nat.le_refl _) (by simp) ?_; (case hd => rfl); (case hg => rfl); (case hr => first | (go_simp; done) | (go_simp; rfl)); (case hp => exact (Reps.one (show Kd.M (Kd.int .i64) _ _ _ 0 [.int .i64 0] from rfl) (Reps.none _ _))); intro v256 w9 ho10 hb hg_ hnew_; clear hg_ hnew_; (first | rw [← Ny255.out] at ho10 | (simp only [Int.reduceToNat] at ho10; rw [← Ny255.out] at ho10)); have n0_ := Aside0.mk (Kd.S_elder' (by (with_reducible repeat (first | apply Kd.S_alloc | apply Kd.S_drewN | apply Kd.S_drew)); exact HO254.out) (Kd.R_base ho10) hb); have n1_ := Aside0.mk (Kd.R_lower ho10 (below_size (by repeat (first | (with_reducible first | exact HB.out | apply below_alloc | apply pw_below_drewN | apply below_drew1) | exact HB.out)))); have n2_ := Aside0.mk (below_step (by repeat (first | (with_reducible first | exact HB.out | apply below_alloc | apply pw_below_drewN | apply below_drew1) | exact HB.out)) hb); clear HO254; clear HB; have HO254 := n0_; have HO257 := n1_; have HB := n2_; clear n0_ n1_ n2_; clear hb ho10))
      go_loopg [7, 8] k (fun kq v7 v8 w' => ∃ (x7_1 : List Int) (x8_1 : Int), v8 = .int .i64 x8_1 ∧ Aside0 (quarrylaw23_TrieFollows.l0 kq l0 l1 t251 x7_1 x8_1 = some r) ∧ Aside0 (kq ≤ k) ∧ Aside0 (Kd.S k50 50 w' w.heap.size (fun k_ => some k_ ≠ (v7 : Value).ownBlock) v253 t251) ∧ Aside0 (Kd.R (Kd.int .i64) 3 w' w.heap.size (fun _ => True) v7 x7_1) ∧ Aside0 (Below w.heap.size w w'))
      case atStart => exact ⟨(y255), (0), (by first | rfl | (simp; done) | (simp [*]; done)), H', ⟨Nat.le_refl _⟩, ⟨by (with_reducible repeat (first | apply Kd.S_alloc | apply Kd.S_drewN | apply Kd.S_drew)); exact Kd.S_mono HO254.out (fun _ hk => hk.2)⟩, ⟨by (with_reducible repeat (first | apply Kd.R_alloc | apply Kd.R_drewN | apply Kd.R_drew)); exact HO257.out⟩, ⟨by repeat (first | (with_reducible first | exact HB.out | apply below_alloc | apply pw_below_drewN | apply below_drew1) | exact HB.out)⟩⟩
      case round =>
        clear H'; (try clear c1); (try clear c2); (try clear p2); (try clear c4); (try clear c6); (try clear c6b0); (try clear c6b1); (try clear c8); (try clear c10); obtain ⟨x7_1, x8_1, rfl, HA, HK1, HO_5, HO_7, HB⟩ := hrel
        cases gk with
        | zero => exact absurd HA.out (by simp [quarrylaw23_TrieFollows.l0])
        | succ k1 =>
          have H := HA.out; clear HA; simp only [quarrylaw23_TrieFollows.l0] at H
          by_cases c11 : x8_1 < (l1.length : Int)
          · rw [if_pos c11] at H; have c11b0 : decide (x8_1 < (l1.length : Int)) = true := decide_eq_true c11; clear c11; have H' := Aside0.mk H; clear H
            go_wp2
            go_loopg [9, 10] k1 (fun kq v9 v10 w' => ∃ (x9_2 : List Int) (x10_2 : Int), v10 = .int .i64 x10_2 ∧ Aside0 (quarrylaw23_TrieFollows.l1 kq l0 l1 t251 x7_1 x8_1 x9_2 x10_2 = some r) ∧ Aside0 (kq ≤ k1) ∧ Aside0 (Kd.S k50 50 w' w.heap.size (fun k_ => some k_ ≠ (u7 : Value).ownBlock ∧ some k_ ≠ (v9 : Value).ownBlock) v253 t251) ∧ Aside0 (Kd.R (Kd.int .i64) 3 w' w.heap.size (fun k_ => some k_ ≠ (v9 : Value).ownBlock) u7 x7_1) ∧ Aside0 (Kd.R (Kd.int .i64) 3 w' w.heap.size (fun k_ => some k_ ≠ (u7 : Value).ownBlock) v9 x9_2) ∧ Aside0 (Below w.heap.size w w'))
            case atStart => exact ⟨(([] : List Int)), (0), (by first | rfl | (simp; done) | (simp [*]; done)), H', ⟨Nat.le_refl _⟩, ⟨by (with_reducible repeat (first | apply Kd.S_alloc | apply Kd.S_drewN | apply Kd.S_drew)); exact Kd.S_mono HO_5.out (fun _ hk => ⟨hk, (by simp [Value.ownBlock])⟩)⟩, ⟨by (with_reducible repeat (first | apply Kd.R_alloc | apply Kd.R_drewN | apply Kd.R_drew)); exact Kd.R_mono HO_7.out (fun _ hk => (by simp [Value.ownBlock]))⟩, ⟨by first | exact Kd.R_nil _ _ _ _ _ | exact Kd.N_nil _ _ _ _ _ | exact Kd.V_nil _ _ _ _ _ | exact Kd.Q_nil _ _ _ _ _ | exact Kd.S_nil _ _ _ _ _⟩, ⟨by repeat (first | (with_reducible first | exact HB.out | apply below_alloc | apply pw_below_drewN | apply below_drew1) | exact HB.out)⟩⟩
            case round =>
              clear H'; (try clear c1); (try clear c2); (try clear p2); (try clear c4); (try clear c6); (try clear c6b0); (try clear c6b1); (try clear c8); (try clear c10); (try clear c11); (try clear c11b0); (try clear p2); obtain ⟨x9_2, x10_2, rfl, HA, HK2, HO_5, HO_7, HO_9, HB⟩ := hrel
              cases gk with
              | zero => exact absurd HA.out (by simp [quarrylaw23_TrieFollows.l1])
              | succ k2 =>
                have H := HA.out; clear HA; simp only [quarrylaw23_TrieFollows.l1] at H
                by_cases c12 : x10_2 < (x7_1.length : Int)
                · rw [if_pos c12] at H; have c12b0 : decide (x10_2 < (x7_1.length : Int)) = true := decide_eq_true c12; clear c12
                  by_cases c13 : 0 ≤ x10_2
                  · rw [if_pos c13] at H; have c13b0 : decide (0 ≤ x10_2) = true := decide_eq_true c13; clear c13
                    by_cases c14 : 0 ≤ x8_1
                    · rw [if_pos c14] at H; have c14b0 : decide (0 ≤ x8_1) = true := decide_eq_true c14; clear c14
                      by_cases c15 : x8_1 < (l1.length : Int)
                      · rw [if_pos c15] at H; have c15b0 : decide (x8_1 < (l1.length : Int)) = true := decide_eq_true c15; clear c15; replace H := Option.bind_eq_some_iff.mp H; obtain ⟨⟨t262, t263⟩, A160, H⟩ := H; replace H : (if t263 = 0 then (if x9_2.length + t262.length < 17592186044416 then (quarrylaw23_TrieFollows.l1 k2 l0 l1 t251 x7_1 x8_1 (x9_2 ++ t262) (wrap64 (x10_2 + 1))) else (none)) else (none)) = some r := H; have A16 := Aside0.mk A160; clear A160
                        by_cases c17 : t263 = 0
                        · rw [if_pos c17] at H; have c17b0 : (t263 == 0) = true := beq_iff_eq.mpr c17; have c17b1 : (t263 != 0) = false := bne_eq_false_iff_eq.mpr c17; clear c17
                          by_cases c18 : x9_2.length + t262.length < 17592186044416
                          · rw [if_pos c18] at H; have LMc18 := Aside0.mk c18; clear c18; obtain ⟨y266, hy266⟩ : ∃ y_ : List Int, y_ = (x9_2 ++ t262) := ⟨_, rfl⟩
                            replace H : (quarrylaw23_TrieFollows.l1 k2 l0 l1 t251 x7_1 x8_1 y266 (wrap64 (x10_2 + 1))) = some r := by first | (rw [hy266]; with_reducible exact H) | (have H2_ := (Option.bind_some _ _).symm.trans H; rw [hy266]; with_reducible exact H2_) | (have H2_ := (Option.bind_some _ _).symm.trans H; with_reducible exact H2_) | with_reducible exact H | (rw [hy266]; exact H) | exact H
                            have Ny266 := Aside0.mk hy266; clear hy266; have H' := Aside0.mk H; clear H; obtain ⟨Ao19, co19, eo19⟩ := Kd.R_slice HO_7.out; subst eo19
                            try go_wp2
                            have n0_ := Aside0.mk (Kd.S_drew HO_5.out); have n1_ := Aside0.mk (Kd.R_drew HO_7.out); have n2_ := Aside0.mk (Kd.R_drew HO_9.out); have n3_ := Aside0.mk (below_drew1 HB.out); clear HO_5; clear HO_7; clear HO_9; clear HB; have HO_5 := n0_; have HO_7 := n1_; have HO_9 := n2_; have HB := n3_; clear n0_ n1_ n2_ n3_; have p258 : 0 ≤ (x10_2 : Int) := of_decide_eq_true (by first | (with_reducible assumption) | assumption); have q258 : x10_2 < (x7_1.length : Int) := of_decide_eq_true (by first | (with_reducible assumption) | assumption); obtain ⟨ad258, e258, hx258_0⟩ := Kd.at_int (Kd.R_reads' HO_7.out).2.2 x10_2 p258 q258; cases e258; replace p258 := eq_true p258; replace q258 := eq_true q258; have p259 : 0 ≤ (x8_1 : Int) := of_decide_eq_true (by first | (with_reducible assumption) | assumption); have q259 : x8_1 < (l1.length : Int) := of_decide_eq_true (by first | (with_reducible assumption) | assumption); obtain ⟨ad259, e259, hx259_0, hx259_1, hx259_2, hx259_3⟩ := at_T38 HR1.out x8_1 p259 q259; have hw259_3 := hx259_3; have hw259_2 := hx259_2; have hw259_1 := hx259_1; have hw259_0 := hx259_0; cases e259; replace hx259_0 := (HB.out.cell (World.block_lt_of_cell? w _ hx259_0)).trans hx259_0; replace hx259_1 := (HB.out.cell (World.block_lt_of_cell? w _ hx259_1)).trans hx259_1; replace hx259_2 := (HB.out.cell (World.block_lt_of_cell? w _ hx259_2)).trans hx259_2; replace hx259_3 := (HB.out.cell (World.block_lt_of_cell? w _ hx259_3)).trans hx259_3; replace p259 := eq_true p259; replace q259 := eq_true q259; have p260 : 0 ≤ (x8_1 : Int) := of_decide_eq_true (by first | (with_reducible assumption) | assumption); have q260 : x8_1 < (l1.length : Int) := of_decide_eq_true (by first | (with_reducible assumption) | assumption); obtain ⟨ad260, e260, hx260_0, hx260_1, hx260_2, hx260_3⟩ := at_T38 HR1.out x8_1 p260 q260; have hw260_3 := hx260_3; have hw260_2 := hx260_2; have hw260_1 := hx260_1; have hw260_0 := hx260_0; obtain rfl : ad259 = ad260 := (by injection e260); replace hx260_0 := (HB.out.cell (World.block_lt_of_cell? w _ hx260_0)).trans hx260_0; replace hx260_1 := (HB.out.cell (World.block_lt_of_cell? w _ hx260_1)).trans hx260_1; replace hx260_2 := (HB.out.cell (World.block_lt_of_cell? w _ hx260_2)).trans hx260_2; replace hx260_3 := (HB.out.cell (World.block_lt_of_cell? w _ hx260_3)).trans hx260_3; replace p260 := eq_true p260; replace q260 := eq_true q260; have p261 : 0 ≤ (x8_1 : Int) := of_decide_eq_true (by first | (with_reducible assumption) | assumption); have q261 : x8_1 < (l1.length : Int) := of_decide_eq_true (by first | (with_reducible assumption) | assumption); obtain ⟨ad261, e261, hx261_0, hx261_1, hx261_2, hx261_3⟩ := at_T38 HR1.out x8_1 p261 q261; have hw261_3 := hx261_3; have hw261_2 := hx261_2; have hw261_1 := hx261_1; have hw261_0 := hx261_0; obtain rfl : ad259 = ad261 := (by injection e261); replace hx261_0 := (HB.out.cell (World.block_lt_of_cell? w _ hx261_0)).trans hx261_0; replace hx261_1 := (HB.out.cell (World.block_lt_of_cell? w _ hx261_1)).trans hx261_1; replace hx261_2 := (HB.out.cell (World.block_lt_of_cell? w _ hx261_2)).trans hx261_2; replace hx261_3 := (HB.out.cell (World.block_lt_of_cell? w _ hx261_3)).trans hx261_3; replace p261 := eq_true p261; replace q261 := eq_true q261; obtain ⟨Ao21, co21, eo21⟩ := Kd.S_slice HO_5.out; (first | subst eo21 | (injection eo21 with f1_ f2_ f3_; have f4_ := f1_.symm; have f5_ := f3_.symm; clear f1_ f2_ f3_; subst f4_; subst f5_))
                            refine start_ (n := 26) (S := fun w' => w'.cell? (ad258.add (x10_2).toNat) = some (.int .i64 (rd x7_1 x10_2)) ∧ w'.cell? (ad259.add ((x8_1).toNat * 4)) = some (.int .i64 ((rd_T38 l1 x8_1).f0)) ∧ w'.cell? ⟨(ad259.add ((x8_1).toNat * 4)).block, (ad259.add ((x8_1).toNat * 4)).off + 1, none⟩ = some (.string ((rd_T38 l1 x8_1).f1)) ∧ w'.cell? ⟨(ad259.add ((x8_1).toNat * 4)).block, (ad259.add ((x8_1).toNat * 4)).off + 2, none⟩ = some (.int .i64 ((rd_T38 l1 x8_1).f2)) ∧ w'.cell? ⟨(ad259.add ((x8_1).toNat * 4)).block, (ad259.add ((x8_1).toNat * 4)).off + 3, none⟩ = some (.bool ((rd_T38 l1 x8_1).f3)) ∧ w'.cell? (ad259.add ((x8_1).toNat * 4)) = some (.int .i64 ((rd_T38 l1 x8_1).f0)) ∧ w'.cell? ⟨(ad259.add ((x8_1).toNat * 4)).block, (ad259.add ((x8_1).toNat * 4)).off + 1, none⟩ = some (.string ((rd_T38 l1 x8_1).f1)) ∧ w'.cell? ⟨(ad259.add ((x8_1).toNat * 4)).block, (ad259.add ((x8_1).toNat * 4)).off + 2, none⟩ = some (.int .i64 ((rd_T38 l1 x8_1).f2)) ∧ w'.cell? ⟨(ad259.add ((x8_1).toNat * 4)).block, (ad259.add ((x8_1).toNat * 4)).off + 3, none⟩ = some (.bool ((rd_T38 l1 x8_1).f3)) ∧ w'.cell? (ad259.add ((x8_1).toNat * 4)) = some (.int .i64 ((rd_T38 l1 x8_1).f0)) ∧ w'.cell? ⟨(ad259.add ((x8_1).toNat * 4)).block, (ad259.add ((x8_1).toNat * 4)).off + 1, none⟩ = some (.string ((rd_T38 l1 x8_1).f1)) ∧ w'.cell? ⟨(ad259.add ((x8_1).toNat * 4)).block, (ad259.add ((x8_1).toNat * 4)).off + 2, none⟩ = some (.int .i64 ((rd_T38 l1 x8_1).f2)) ∧ w'.cell? ⟨(ad259.add ((x8_1).toNat * 4)).block, (ad259.add ((x8_1).toNat * 4)).off + 3, none⟩ = some (.bool ((rd_T38 l1 x8_1).f3))) (ds := []) #[false, false, false, false, false, false, false, false, false, false, false, false, false, false, false, false, false, false, false, false, false, false, false, false, false, false] (by kernel_rfl) rfl rfl ⟨hx258_0, ((HB.out.cell (World.block_lt_of_cell? w _ hw259_0)).trans hw259_0), ((HB.out.cell (World.block_lt_of_cell? w _ hw259_1)).trans hw259_1), ((HB.out.cell (World.block_lt_of_cell? w _ hw259_2)).trans hw259_2), ((HB.out.cell (World.block_lt_of_cell? w _ hw259_3)).trans hw259_3), ((HB.out.cell (World.block_lt_of_cell? w _ hw260_0)).trans hw260_0), ((HB.out.cell (World.block_lt_of_cell? w _ hw260_1)).trans hw260_1), ((HB.out.cell (World.block_lt_of_cell? w _ hw260_2)).trans hw260_2), ((HB.out.cell (World.block_lt_of_cell? w _ hw260_3)).trans hw260_3), ((HB.out.cell (World.block_lt_of_cell? w _ hw261_0)).trans hw261_0), ((HB.out.cell (World.block_lt_of_cell? w _ hw261_1)).trans hw261_1), ((HB.out.cell (World.block_lt_of_cell? w _ hw261_2)).trans hw261_2), ((HB.out.cell (World.block_lt_of_cell? w _ hw261_3)).trans hw261_3)⟩ (fun hHeld => ?_); refine with_tabW quarrylaw23_TrieFollows.tab14 quarrylaw23_TrieFollows.bits14 (fun HT_ HW_ => ?_); generalize wr.drew = w20 at HO_5 HO_7 HO_9 HB hx258_0 hx259_0 hx259_1 hx259_2 hx259_3 hx260_0 hx260_1 hx260_2 hx260_3 hx261_0 hx261_1 hx261_2 hx261_3 hHeld ⊢; refine pure_ (i := 0) (N := some 42) (v := ?_) (a' := ?_) #[true, false, false, false, false, false, false, false, false, false, false, false, false, false, false, false, false, false, false, false, false, false, false, false, false, false] rfl rfl (any_of HT_.out (by kernel_rfl)) (fun _ _ _ h => h) (Or.inl ⟨by rfl, ?_⟩) ?_ ?_; rotate_left
                            · intro w'; go_simp; (with_reducible rfl)
                            rotate_left
                            · simp only [Act.put, List.setIfInBounds_toArray, List.set_cons_zero, List.set_cons_succ, i64_w, i32_w]; rfl
                            refine pure_ (i := 1) (N := some 43) (v := ?_) (a' := ?_) #[true, true, false, false, false, false, false, false, false, false, false, false, false, false, false, false, false, false, false, false, false, false, false, false, false, false] rfl rfl (any_of HT_.out (by kernel_rfl)) (fun _ _ _ h => h) (Or.inl ⟨by rfl, ?_⟩) ?_ ?_; rotate_left
                            · intro w'; go_simp; (with_reducible rfl)
                            rotate_left
                            · simp only [Act.put, List.setIfInBounds_toArray, List.set_cons_zero, List.set_cons_succ, i64_w, i32_w]; rfl
                            refine pure_ (i := 2) (N := some 44) (v := ?_) (a' := ?_) #[true, true, true, false, false, false, false, false, false, false, false, false, false, false, false, false, false, false, false, false, false, false, false, false, false, false] rfl rfl (any_of HT_.out (by kernel_rfl)) (fun _ _ _ h => h) (Or.inl ⟨by rfl, ?_⟩) ?_ ?_; rotate_left
                            · intro w'; go_simp; (with_reducible rfl)
                            rotate_left
                            · simp only [Act.put, List.setIfInBounds_toArray, List.set_cons_zero, List.set_cons_succ, i64_w, i32_w]; rfl
                            refine pure_ (i := 3) (N := some 45) (v := ?_) (a' := ?_) #[true, true, true, true, false, false, false, false, false, false, false, false, false, false, false, false, false, false, false, false, false, false, false, false, false, false] rfl rfl (any_of HT_.out (by kernel_rfl)) (fun _ _ _ h => h) (Or.inl ⟨by rfl, ?_⟩) ?_ ?_; rotate_left
                            · intro w'; go_simp; (with_reducible rfl)
                            rotate_left
                            · simp only [Act.put, List.setIfInBounds_toArray, List.set_cons_zero, List.set_cons_succ, i64_w, i32_w]; rfl
                            refine pure_ (i := 5) (N := some 47) (v := ?_) (a' := ?_) #[true, true, true, true, false, true, false, false, false, false, false, false, false, false, false, false, false, false, false, false, false, false, false, false, false, false] rfl rfl (any_of HT_.out (by kernel_rfl)) (fun _ _ _ h => h) (Or.inl ⟨by rfl, ?_⟩) ?_ ?_; rotate_left
                            · intro w'; go_simp; (with_reducible rfl)
                            rotate_left
                            · simp only [Act.put, List.setIfInBounds_toArray, List.set_cons_zero, List.set_cons_succ, i64_w, i32_w]; rfl
                            refine pure_ (i := 6) (N := some 48) (v := ?_) (a' := ?_) #[true, true, true, true, false, true, true, false, false, false, false, false, false, false, false, false, false, false, false, false, false, false, false, false, false, false] rfl rfl (any_of HT_.out (by kernel_rfl)) (fun _ _ _ h => h) (Or.inl ⟨by rfl, ?_⟩) ?_ ?_; rotate_left
                            · intro w'; go_simp; (with_reducible rfl)
                            rotate_left
                            · simp only [Act.put, List.setIfInBounds_toArray, List.set_cons_zero, List.set_cons_succ, i64_w, i32_w]; rfl
                            refine pure_ (i := 7) (N := some 49) (v := ?_) (a' := ?_) #[true, true, true, true, false, true, true, true, false, false, false, false, false, false, false, false, false, false, false, false, false, false, false, false, false, false] rfl rfl (any_of HT_.out (by kernel_rfl)) (fun _ _ _ h => h) (Or.inl ⟨by rfl, ?_⟩) ?_ ?_; rotate_left
                            · intro w'; go_simp; (with_reducible rfl)
                            rotate_left
                            · simp only [Act.put, List.setIfInBounds_toArray, List.set_cons_zero, List.set_cons_succ, i64_w, i32_w]; rfl
                            refine pure_ (i := 8) (N := some 50) (v := ?_) (a' := ?_) #[true, true, true, true, false, true, true, true, true, false, false, false, false, false, false, false, false, false, false, false, false, false, false, false, false, false] rfl rfl (any_of HT_.out (by kernel_rfl)) (fun _ _ _ h => h) (Or.inl ⟨by rfl, ?_⟩) ?_ ?_; rotate_left
                            · intro w'; go_simp; (with_reducible rfl)
                            rotate_left
                            · simp only [Act.put, List.setIfInBounds_toArray, List.set_cons_zero, List.set_cons_succ, i64_w, i32_w]; rfl
                            refine pure_ (i := 10) (N := some 52) (v := ?_) (a' := ?_) #[true, true, true, true, false, true, true, true, true, false, true, false, false, false, false, false, false, false, false, false, false, false, false, false, false, false] rfl rfl (any_of HT_.out (by kernel_rfl)) (fun _ _ _ h => h) (Or.inl ⟨by rfl, ?_⟩) ?_ ?_; rotate_left
                            · intro w'; go_simp; (with_reducible rfl)
                            rotate_left
                            · simp only [Act.put, List.setIfInBounds_toArray, List.set_cons_zero, List.set_cons_succ, i64_w, i32_w]; rfl
                            refine pure_ (i := 11) (N := some 53) (v := ?_) (a' := ?_) #[true, true, true, true, false, true, true, true, true, false, true, true, false, false, false, false, false, false, false, false, false, false, false, false, false, false] rfl rfl (any_of HT_.out (by kernel_rfl)) (fun _ _ _ h => h) (Or.inl ⟨by rfl, ?_⟩) ?_ ?_; rotate_left
                            · intro w'; go_simp; (with_reducible rfl)
                            rotate_left
                            · simp only [Act.put, List.setIfInBounds_toArray, List.set_cons_zero, List.set_cons_succ, i64_w, i32_w]; rfl
                            refine pure_ (i := 12) (N := some 54) (v := ?_) (a' := ?_) #[true, true, true, true, false, true, true, true, true, false, true, true, true, false, false, false, false, false, false, false, false, false, false, false, false, false] rfl rfl (any_of HT_.out (by kernel_rfl)) (fun _ _ _ h => h) (Or.inl ⟨by rfl, ?_⟩) ?_ ?_; rotate_left
                            · intro w'; go_simp; (with_reducible rfl)
                            rotate_left
                            · simp only [Act.put, List.setIfInBounds_toArray, List.set_cons_zero, List.set_cons_succ, i64_w, i32_w]; rfl
                            refine pure_ (i := 13) (N := some 55) (v := ?_) (a' := ?_) #[true, true, true, true, false, true, true, true, true, false, true, true, true, true, false, false, false, false, false, false, false, false, false, false, false, false] rfl rfl (any_of HT_.out (by kernel_rfl)) (fun _ _ _ h => h) (Or.inl ⟨by rfl, ?_⟩) ?_ ?_; rotate_left
                            · intro w'; go_simp; (with_reducible rfl)
                            rotate_left
                            · simp only [Act.put, List.setIfInBounds_toArray, List.set_cons_zero, List.set_cons_succ, i64_w, i32_w]; rfl
                            refine pure_ (i := 15) (N := some 57) (v := ?_) (a' := ?_) #[true, true, true, true, false, true, true, true, true, false, true, true, true, true, false, true, false, false, false, false, false, false, false, false, false, false] rfl rfl (any_of HT_.out (by kernel_rfl)) (fun _ _ _ h => h) (Or.inl ⟨by rfl, ?_⟩) ?_ ?_; rotate_left
                            · intro w'; go_simp; (with_reducible rfl)
                            rotate_left
                            · simp only [Act.put, List.setIfInBounds_toArray, List.set_cons_zero, List.set_cons_succ, i64_w, i32_w]; rfl
                            refine pure_ (i := 16) (N := some 58) (v := ?_) (a' := ?_) #[true, true, true, true, false, true, true, true, true, false, true, true, true, true, false, true, true, false, false, false, false, false, false, false, false, false] rfl rfl (any_of HT_.out (by kernel_rfl)) (fun _ _ _ h => h) (Or.inl ⟨by rfl, ?_⟩) ?_ ?_; rotate_left
                            · intro w'; go_simp; (with_reducible rfl)
                            rotate_left
                            · simp only [Act.put, List.setIfInBounds_toArray, List.set_cons_zero, List.set_cons_succ, i64_w, i32_w]; rfl
                            refine pure_ (i := 17) (N := some 59) (v := ?_) (a' := ?_) #[true, true, true, true, false, true, true, true, true, false, true, true, true, true, false, true, true, true, false, false, false, false, false, false, false, false] rfl rfl (any_of HT_.out (by kernel_rfl)) (fun _ _ _ h => h) (Or.inl ⟨by rfl, ?_⟩) ?_ ?_; rotate_left
                            · intro w'; go_simp; (with_reducible rfl)
                            rotate_left
                            · simp only [Act.put, List.setIfInBounds_toArray, List.set_cons_zero, List.set_cons_succ, i64_w, i32_w]; rfl
                            refine pure_ (i := 18) (N := some 60) (v := ?_) (a' := ?_) #[true, true, true, true, false, true, true, true, true, false, true, true, true, true, false, true, true, true, true, false, false, false, false, false, false, false] rfl rfl (any_of HT_.out (by kernel_rfl)) (fun _ _ _ h => h) (Or.inl ⟨by rfl, ?_⟩) ?_ ?_; rotate_left
                            · intro w'; go_simp; (with_reducible rfl)
                            rotate_left
                            · simp only [Act.put, List.setIfInBounds_toArray, List.set_cons_zero, List.set_cons_succ, i64_w, i32_w]; rfl
                            refine take_ (i := 4) (N := some 46) (v := ?_) (a' := ?_) #[true, true, true, true, true, true, true, true, true, false, true, true, true, true, false, true, true, true, true, false, false, false, false, false, false, false] rfl rfl (take_ofW HT_.out HW_.out (by kernel_rfl)) (fun _ _ _ h => h) (Or.inl ⟨by rfl, ?_⟩) hHeld ?_ ?_; rotate_left
                            · rintro w' ⟨s0, s1, s2, s3, s4, s5, s6, s7, s8, s9, s10, s11, s12⟩; go_simp; (with_reducible rfl)
                            rotate_left
                            · simp only [Act.put, List.setIfInBounds_toArray, List.set_cons_zero, List.set_cons_succ, i64_w, i32_w]; rfl
                            refine take_ (i := 9) (N := some 51) (v := ?_) (a' := ?_) #[true, true, true, true, true, true, true, true, true, true, true, true, true, true, false, true, true, true, true, false, false, false, false, false, false, false] rfl rfl (take_ofW HT_.out HW_.out (by kernel_rfl)) (fun _ _ _ h => h) (Or.inl ⟨by rfl, ?_⟩) hHeld ?_ ?_; rotate_left
                            · rintro w' ⟨s0, s1, s2, s3, s4, s5, s6, s7, s8, s9, s10, s11, s12⟩; go_simp; (with_reducible rfl)
                            rotate_left
                            · simp only [Act.put, List.setIfInBounds_toArray, List.set_cons_zero, List.set_cons_succ, i64_w, i32_w]; rfl
                            refine take_ (i := 14) (N := some 56) (v := ?_) (a' := ?_) #[true, true, true, true, true, true, true, true, true, true, true, true, true, true, true, true, true, true, true, false, false, false, false, false, false, false] rfl rfl (take_ofW HT_.out HW_.out (by kernel_rfl)) (fun _ _ _ h => h) (Or.inl ⟨by rfl, ?_⟩) hHeld ?_ ?_; rotate_left
                            · rintro w' ⟨s0, s1, s2, s3, s4, s5, s6, s7, s8, s9, s10, s11, s12⟩; go_simp; (with_reducible rfl)
                            rotate_left
                            · simp only [Act.put, List.setIfInBounds_toArray, List.set_cons_zero, List.set_cons_succ, i64_w, i32_w]; rfl
                            refine take_ (i := 19) (N := some 61) (v := ?_) (a' := ?_) #[true, true, true, true, true, true, true, true, true, true, true, true, true, true, true, true, true, true, true, true, false, false, false, false, false, false] rfl rfl (take_ofW HT_.out HW_.out (by kernel_rfl)) (fun _ _ _ h => h) (Or.inl ⟨by rfl, ?_⟩) hHeld ?_ ?_; rotate_left
                            · rintro w' ⟨s0, s1, s2, s3, s4, s5, s6, s7, s8, s9, s10, s11, s12⟩; go_simp; (with_reducible rfl)
                            rotate_left
                            · simp only [Act.put, List.setIfInBounds_toArray, List.set_cons_zero, List.set_cons_succ, i64_w, i32_w]; rfl
                            refine one_ (i := 20) (N := some 62) #[true, true, true, true, true, true, true, true, true, true, true, true, true, true, true, true, true, true, true, true, true, false, false, false, false, false] rfl rfl (one_of HT_.out (by kernel_rfl)) (by decide) (fun K hK => ?_); refine goes_ Try.func16 (by kernel_rfl) rfl #[.slice Ao21 t251.length co21, .int .i64 (rd x7_1 x10_2), .string ((rd_T38 l1 x8_1).f1), .int .i64 ((rd_T38 l1 x8_1).f2), .bool ((rd_T38 l1 x8_1).f3)] (by rfl) rfl rfl (by (try simp only [List.map_toArray, List.map_cons, List.map_nil]); first | done | rfl | (simp only [List.length_drop, List.length_take]; rfl)) ?_; (with_reducible refine (trie_Go.calls k2 _ _ t251 (rd x7_1 x10_2) ((rd_T38 l1 x8_1).f1) ((rd_T38 l1 x8_1).f2) ((rd_T38 l1 x8_1).f3) t262 t263 _ ?side1 ?side2 A16.out).mono ?_); (case side1 => repeat (first | exact (Kd.S_reads' HO_5.out).2.2 | (with_reducible refine Kd.C_alloc ?_ _) | (with_reducible refine Kd.C_drewN ?_ _) | (with_reducible refine Kd.C_drew ?_))); (case side2 => exact (Kd.S_reads' HO_5.out).2.1); rintro e w22 ⟨v264, rfl, ho0, hb⟩; have HS0_ := (hb.cell (World.block_lt_of_cell? _ _ (hHeld.1))).trans (hHeld.1); refine ⟨_, rfl, ?_⟩; have n0_ := Aside0.mk (Kd.S_elder' (by (with_reducible repeat (first | apply Kd.S_alloc | apply Kd.S_drewN | apply Kd.S_drew)); exact HO_5.out) (Kd.R_base ho0) hb); have n1_ := Aside0.mk (Kd.R_elder' (by (with_reducible repeat (first | apply Kd.R_alloc | apply Kd.R_drewN | apply Kd.R_drew)); exact HO_7.out) (Kd.R_base ho0) hb); have n2_ := Aside0.mk (Kd.R_elder' (by (with_reducible repeat (first | apply Kd.R_alloc | apply Kd.R_drewN | apply Kd.R_drew)); exact HO_9.out) (Kd.R_base ho0) hb); have n3_ := Aside0.mk (Kd.R_lower (Kd.R_new' (Kd.R_new' ho0 (Kd.R_lt (by (with_reducible repeat (first | apply Kd.R_alloc | apply Kd.R_drewN | apply Kd.R_drew)); exact HO_7.out))) (Kd.R_lt (by (with_reducible repeat (first | apply Kd.R_alloc | apply Kd.R_drewN | apply Kd.R_drew)); exact HO_9.out))) (below_size (by repeat (first | (with_reducible first | exact HB.out | apply below_alloc | apply pw_below_drewN | apply below_drew1) | exact HB.out)))); have n4_ := Aside0.mk (below_step (by repeat (first | (with_reducible first | exact HB.out | apply below_alloc | apply pw_below_drewN | apply below_drew1) | exact HB.out)) hb); clear HO_5; clear HO_7; clear HO_9; clear HB; have HO_5 := n0_; have HO_7 := n1_; have HO_9 := n2_; have HO265 := n3_; have HB := n4_; clear n0_ n1_ n2_ n3_ n4_; (try clear hb); (try clear hb2); (try clear hk); (try clear hi); (try clear ho0); refine hK.out _ _ ⟨HS0_, ((HB.out.cell (World.block_lt_of_cell? w _ hw259_0)).trans hw259_0), ((HB.out.cell (World.block_lt_of_cell? w _ hw259_1)).trans hw259_1), ((HB.out.cell (World.block_lt_of_cell? w _ hw259_2)).trans hw259_2), ((HB.out.cell (World.block_lt_of_cell? w _ hw259_3)).trans hw259_3), ((HB.out.cell (World.block_lt_of_cell? w _ hw260_0)).trans hw260_0), ((HB.out.cell (World.block_lt_of_cell? w _ hw260_1)).trans hw260_1), ((HB.out.cell (World.block_lt_of_cell? w _ hw260_2)).trans hw260_2), ((HB.out.cell (World.block_lt_of_cell? w _ hw260_3)).trans hw260_3), ((HB.out.cell (World.block_lt_of_cell? w _ hw261_0)).trans hw261_0), ((HB.out.cell (World.block_lt_of_cell? w _ hw261_1)).trans hw261_1), ((HB.out.cell (World.block_lt_of_cell? w _ hw261_2)).trans hw261_2), ((HB.out.cell (World.block_lt_of_cell? w _ hw261_3)).trans hw261_3)⟩ (fun hHeld => ?_); clear hK K; refine norm_ (a' := ?_) ?_ ?_; rotate_left
                            · show Act.put _ (some 62) _ = _
                              simp only [Act.put, List.setIfInBounds_toArray, List.set_cons_zero, List.set_cons_succ, i64_w, i32_w]; rfl
                            refine pure_ (i := 21) (N := some 41) (v := ?_) (a' := ?_) #[true, true, true, true, true, true, true, true, true, true, true, true, true, true, true, true, true, true, true, true, true, true, false, false, false, false] rfl rfl (any_of HT_.out (by kernel_rfl)) (fun _ _ _ h => h) (Or.inl ⟨by rfl, ?_⟩) ?_ ?_; rotate_left
                            · intro w'; go_simp; (with_reducible rfl)
                            rotate_left
                            · simp only [Act.put, List.setIfInBounds_toArray, List.set_cons_zero, List.set_cons_succ, i64_w, i32_w]; rfl
                            refine pure_ (i := 22) (N := some 63) (v := ?_) (a' := ?_) #[true, true, true, true, true, true, true, true, true, true, true, true, true, true, true, true, true, true, true, true, true, true, true, false, false, false] rfl rfl (any_of HT_.out (by kernel_rfl)) (fun _ _ _ h => h) (Or.inl ⟨by rfl, ?_⟩) ?_ ?_; rotate_left
                            · intro w'; go_simp; (with_reducible rfl)
                            rotate_left
                            · simp only [Act.put, List.setIfInBounds_toArray, List.set_cons_zero, List.set_cons_succ, i64_w, i32_w]; rfl
                            refine pure_ (i := 23) (N := some 64) (v := ?_) (a' := ?_) #[true, true, true, true, true, true, true, true, true, true, true, true, true, true, true, true, true, true, true, true, true, true, true, true, false, false] rfl rfl (any_of HT_.out (by kernel_rfl)) (fun _ _ _ h => h) (Or.inl ⟨by rfl, ?_⟩) ?_ ?_; rotate_left
                            · intro w'; go_simp; (with_reducible rfl)
                            rotate_left
                            · simp only [Act.put, List.setIfInBounds_toArray, List.set_cons_zero, List.set_cons_succ, i64_w, i32_w]; rfl
                            refine pure_ (i := 24) (N := some 11) (v := ?_) (a' := ?_) #[true, true, true, true, true, true, true, true, true, true, true, true, true, true, true, true, true, true, true, true, true, true, true, true, true, false] rfl rfl (any_of HT_.out (by kernel_rfl)) (fun _ _ _ h => h) (Or.inl ⟨by rfl, ?_⟩) ?_ ?_; rotate_left
                            · intro w'; go_simp; (with_reducible rfl)
                            rotate_left
                            · simp only [Act.put, List.setIfInBounds_toArray, List.set_cons_zero, List.set_cons_succ, i64_w, i32_w]; rfl
                            refine pure_ (i := 25) (N := some 12) (v := ?_) (a' := ?_) #[true, true, true, true, true, true, true, true, true, true, true, true, true, true, true, true, true, true, true, true, true, true, true, true, true, true] rfl rfl (any_of HT_.out (by kernel_rfl)) (fun _ _ _ h => h) (Or.inl ⟨by rfl, ?_⟩) ?_ ?_; rotate_left
                            · intro w'; go_simp; (with_reducible rfl)
                            rotate_left
                            · simp only [Act.put, List.setIfInBounds_toArray, List.set_cons_zero, List.set_cons_succ, i64_w, i32_w]; rfl
                            refine done_ (done_of HT_.out (by kernel_rfl)) ?_; obtain ⟨Ao24, co24, eo24⟩ := Kd.R_slice HO265.out; subst eo24
                            try go_wp2_with (first | ((with_reducible refine gate_builtin (b := .append) (xs := #[.tmp 67, .tmp 68]) rfl ?_); (try (refine gate_guard (by rfl) ?_; dsimp only)); at_builtin; refine Kd.R_append_rows (Kd.int .i64) (w0 := w) w.heap.size rfl (.tmp 67) (.tmp 68) 32 3 (.int .i64 0) 8 rfl Try.underlying32 info3 rfl (by decide) (by omega) u9 x9_2 t262 _ _ _ (fun k_ => some k_ ≠ (.slice (some ad258) x7_1.length co19 : Value).ownBlock ∧ some k_ ≠ (.slice Ao24 t262.length co24 : Value).ownBlock) (fun _ => False) rfl rfl ?aO ?aR (fun _ _ h => h) (fun _ h => h.elim) ?aF ?aB ?aS ?aL ?_; (case aR => repeat (first | exact (Kd.R_reads' HO265.out).2.2 | (with_reducible refine Kd.C_alloc ?_ _) | (with_reducible refine Kd.C_drewN ?_ _) | (with_reducible refine Kd.C_drew ?_))); (case aB => exact (by repeat (first | (with_reducible first | exact HB.out | apply below_alloc | apply pw_below_drewN | apply below_drew1) | exact HB.out))); (case aF => exact (fun k_ hk => ⟨Kd.fresh' (Kd.R_lt (by (with_reducible repeat (first | apply Kd.R_alloc | apply Kd.R_drewN | apply Kd.R_drew)); exact HO_7.out)) k_ hk, Kd.fresh' (Kd.R_lt (by (with_reducible repeat (first | apply Kd.R_alloc | apply Kd.R_drewN | apply Kd.R_drew)); exact HO265.out)) k_ hk⟩)); (case aO => exact (by (with_reducible repeat (first | apply Kd.R_alloc | apply Kd.R_drewN | apply Kd.R_drew)); exact HO_9.out)); (case aS => exact (below_size (by repeat (first | (with_reducible first | exact HB.out | apply below_alloc | apply pw_below_drewN | apply below_drew1) | exact HB.out)))); (case aL => have := LMc18.out; omega); intro v267 w23 ho hb hg hat; rw [← Ny266.out] at ho; have n0_ := Aside0.mk (Kd.S_after (ok := (fun k_ => some k_ ≠ (.slice (some ad258) x7_1.length co19 : Value).ownBlock ∧ some k_ ≠ (.slice Ao24 t262.length co24 : Value).ownBlock)) (by (with_reducible repeat (first | apply Kd.S_alloc | apply Kd.S_drewN | apply Kd.S_drew)); exact Kd.S_mono HO_5.out (fun _ hk => ⟨⟨hk.1.1, hk.2⟩, hk.1.2⟩)) hg hat); have n1_ := Aside0.mk (Kd.R_after (ok := (fun k_ => some k_ ≠ (.slice Ao24 t262.length co24 : Value).ownBlock)) (by (with_reducible repeat (first | apply Kd.R_alloc | apply Kd.R_drewN | apply Kd.R_drew)); exact Kd.R_mono HO_7.out (fun _ hk => ⟨hk.2, hk.1⟩)) hg hat); have n2_ := Aside0.mk (Kd.R_after (ok := (fun k_ => some k_ ≠ (.slice (some ad258) x7_1.length co19 : Value).ownBlock)) (by (with_reducible repeat (first | apply Kd.R_alloc | apply Kd.R_drewN | apply Kd.R_drew)); exact Kd.R_mono HO265.out (fun _ hk => ⟨hk.1.2, hk.2⟩)) hg hat); have n3_ := Aside0.mk (hb); have n4_ := Aside0.mk (ho); clear HO_5; clear HO_7; clear HO265; clear HB; clear HO_9; have HO_5 := n0_; have HO_7 := n1_; have HO265 := n2_; have HB := n3_; have HO268 := n4_; clear n0_ n1_ n2_ n3_ n4_; clear ho hb hg hat))
                            go_roundg k2
                            case measure => have := HK1.out; have := HK2.out; omega
                            case rel => exact ⟨(y266), (wrap64 (x10_2 + 1)), (by first | rfl | (simp; done) | (simp [*]; done)), H', ⟨by have := HK1.out; have := HK2.out; omega⟩, ⟨by (with_reducible repeat (first | apply Kd.S_alloc | apply Kd.S_drewN | apply Kd.S_drew)); exact Kd.S_mono HO_5.out (fun _ hk => ⟨hk.1.1, hk.2⟩)⟩, ⟨by (with_reducible repeat (first | apply Kd.R_alloc | apply Kd.R_drewN | apply Kd.R_drew)); exact Kd.R_mono HO_7.out (fun _ hk => hk.2)⟩, ⟨by (with_reducible repeat (first | apply Kd.R_alloc | apply Kd.R_drewN | apply Kd.R_drew)); exact Kd.R_mono HO268.out (fun _ hk => hk.1)⟩, ⟨by repeat (first | (with_reducible first | exact HB.out | apply below_alloc | apply pw_below_drewN | apply below_drew1) | exact HB.out)⟩⟩
                          · rw [if_neg c18] at H; exact absurd H (by simp)
                        · rw [if_neg c17] at H; exact absurd H (by simp)
                      · rw [if_neg c15] at H; exact absurd H (by simp)
                    · rw [if_neg c14] at H; exact absurd H (by simp)
                  · rw [if_neg c13] at H; exact absurd H (by simp)
                · rw [if_neg c12] at H; have c12b0 : decide (x10_2 < (x7_1.length : Int)) = false := decide_eq_false c12; clear c12; have H' := Aside0.mk H; clear H; obtain ⟨Ao25, co25, eo25⟩ := Kd.R_slice HO_7.out; subst eo25
                  go_wp2
                  go_roundg k2
                  case measure => have := HK1.out; have := HK2.out; omega
                  case rel => exact ⟨(x9_2), (wrap64 (x8_1 + 1)), (by first | rfl | (simp; done) | (simp [*]; done)), H', ⟨by have := HK1.out; have := HK2.out; omega⟩, ⟨by (with_reducible repeat (first | apply Kd.S_alloc | apply Kd.S_drewN | apply Kd.S_drew)); exact Kd.S_mono HO_5.out (fun _ hk => hk.2)⟩, ⟨by (with_reducible repeat (first | apply Kd.R_alloc | apply Kd.R_drewN | apply Kd.R_drew)); exact Kd.R_mono HO_9.out (fun _ hk => trivial)⟩, ⟨by repeat (first | (with_reducible first | exact HB.out | apply below_alloc | apply pw_below_drewN | apply below_drew1) | exact HB.out)⟩⟩
          · rw [if_neg c11] at H; have c11b0 : decide (x8_1 < (l1.length : Int)) = false := decide_eq_false c11; clear c11; have H' := Aside0.mk H; clear H
            go_wp2
            go_loopg [13, 14] k1 (fun kq v13 v14 w' => ∃ (x13_2 : List Int) (x14_2 : Int), v14 = .int .i64 x14_2 ∧ Aside0 (quarrylaw23_TrieFollows.l2 kq l0 l1 t251 x7_1 x13_2 x14_2 = some r) ∧ Aside0 (kq ≤ k1) ∧ Aside0 (Kd.S k50 50 w' w.heap.size (fun k_ => some k_ ≠ (u7 : Value).ownBlock ∧ some k_ ≠ (v13 : Value).ownBlock) v253 t251) ∧ Aside0 (Kd.R (Kd.int .i64) 3 w' w.heap.size (fun k_ => some k_ ≠ (v13 : Value).ownBlock) u7 x7_1) ∧ Aside0 (Kd.R (Kd.int .i64) 3 w' w.heap.size (fun k_ => some k_ ≠ (u7 : Value).ownBlock) v13 x13_2) ∧ Aside0 (Below w.heap.size w w'))
            case atStart => exact ⟨(([] : List Int)), (0), (by first | rfl | (simp; done) | (simp [*]; done)), H', ⟨Nat.le_refl _⟩, ⟨by (with_reducible repeat (first | apply Kd.S_alloc | apply Kd.S_drewN | apply Kd.S_drew)); exact Kd.S_mono HO_5.out (fun _ hk => ⟨hk, (by simp [Value.ownBlock])⟩)⟩, ⟨by (with_reducible repeat (first | apply Kd.R_alloc | apply Kd.R_drewN | apply Kd.R_drew)); exact Kd.R_mono HO_7.out (fun _ hk => (by simp [Value.ownBlock]))⟩, ⟨by first | exact Kd.R_nil _ _ _ _ _ | exact Kd.N_nil _ _ _ _ _ | exact Kd.V_nil _ _ _ _ _ | exact Kd.Q_nil _ _ _ _ _ | exact Kd.S_nil _ _ _ _ _⟩, ⟨by repeat (first | (with_reducible first | exact HB.out | apply below_alloc | apply pw_below_drewN | apply below_drew1) | exact HB.out)⟩⟩
            case round =>
              clear H'; (try clear c1); (try clear c2); (try clear p2); (try clear q2); (try clear hx2); (try clear c4); (try clear c6); (try clear c6b0); (try clear c6b1); (try clear p6); (try clear c8); (try clear c10); (try clear c11); (try clear c11b0); (try clear c12); (try clear c12b0); (try clear c13); (try clear c13b0); (try clear c14); (try clear c14b0); (try clear c15); (try clear c15b0); (try clear c16); (try clear c17); (try clear c17b0); (try clear c17b1); (try clear c18); (try clear c25); (try clear p25); (try clear q25); (try clear hx25); (try clear hx258_0); (try clear hx259_0); (try clear hx259_1); (try clear hx259_2); (try clear hx259_3); (try clear hx260_0); (try clear hx260_1); (try clear hx260_2); (try clear hx260_3); (try clear hx261_0); (try clear hx261_1); (try clear hx261_2); (try clear hx261_3); (try clear p2); (try clear p258); (try clear p259); (try clear p260); (try clear p261); (try clear q258); (try clear q259); (try clear q260); (try clear q261); obtain ⟨x13_2, x14_2, rfl, HA, HK2, HO_5, HO_7, HO_13, HB⟩ := hrel
              cases gk with
              | zero => exact absurd HA.out (by simp [quarrylaw23_TrieFollows.l2])
              | succ k2 =>
                have H := HA.out; clear HA; simp only [quarrylaw23_TrieFollows.l2] at H
                by_cases c26 : x14_2 < (x7_1.length : Int)
                · rw [if_pos c26] at H; have c26b0 : decide (x14_2 < (x7_1.length : Int)) = true := decide_eq_true c26; clear c26
                  by_cases c27 : 0 ≤ x14_2
                  · rw [if_pos c27] at H; have c27b0 : decide (0 ≤ x14_2) = true := decide_eq_true c27; clear c27
                    by_cases c28 : (rd x7_1 x14_2) < 0
                    · rw [if_pos c28] at H; exact absurd H (by simp)
                    · rw [if_neg c28] at H; have c28b0 : decide ((rd x7_1 x14_2) < 0) = false := decide_eq_false c28; clear c28
                      by_cases c29 : (rd x7_1 x14_2) ≥ (t251.length : Int)
                      · rw [if_pos c29] at H; exact absurd H (by simp)
                      · rw [if_neg c29] at H; have c29b0 : decide ((t251.length : Int) ≤ (rd x7_1 x14_2)) = false := decide_eq_false c29; clear c29
                        by_cases c30 : 0 ≤ (rd x7_1 x14_2)
                        · rw [if_pos c30] at H; have c30b0 : decide (0 ≤ (rd x7_1 x14_2)) = true := decide_eq_true c30; clear c30
                          by_cases c31 : (rd x7_1 x14_2) < (t251.length : Int)
                          · rw [if_pos c31] at H; have c31b0 : decide ((rd x7_1 x14_2) < (t251.length : Int)) = true := decide_eq_true c31; clear c31
                            by_cases c32 : x13_2.length + ((rd_T50 t251 (rd x7_1 x14_2)).f2).length < 17592186044416
                            · rw [if_pos c32] at H; have LMc32 := Aside0.mk c32; clear c32; obtain ⟨y273, hy273⟩ : ∃ y_ : List Int, y_ = (x13_2 ++ ((rd_T50 t251 (rd x7_1 x14_2)).f2)) := ⟨_, rfl⟩
                              replace H : (quarrylaw23_TrieFollows.l2 k2 l0 l1 t251 x7_1 y273 (wrap64 (x14_2 + 1))) = some r := by first | (rw [hy273]; with_reducible exact H) | (have H2_ := (Option.bind_some _ _).symm.trans H; rw [hy273]; with_reducible exact H2_) | (have H2_ := (Option.bind_some _ _).symm.trans H; with_reducible exact H2_) | with_reducible exact H | (rw [hy273]; exact H) | exact H
                              have Ny273 := Aside0.mk hy273; clear hy273; have H' := Aside0.mk H; clear H; obtain ⟨Ao33, co33, eo33⟩ := Kd.R_slice HO_7.out; subst eo33; have p269 : 0 ≤ (x14_2 : Int) := of_decide_eq_true (by first | (with_reducible assumption) | assumption); have q269 : x14_2 < (x7_1.length : Int) := of_decide_eq_true (by first | (with_reducible assumption) | assumption); obtain ⟨ad269, e269, hx269_0⟩ := Kd.at_int (Kd.R_reads' HO_7.out).2.2 x14_2 p269 q269; cases e269; replace p269 := eq_true p269; replace q269 := eq_true q269; have p270 : 0 ≤ (x14_2 : Int) := of_decide_eq_true (by first | (with_reducible assumption) | assumption); have q270 : x14_2 < (x7_1.length : Int) := of_decide_eq_true (by first | (with_reducible assumption) | assumption); obtain ⟨ad270, e270, hx270_0⟩ := Kd.at_int (Kd.R_reads' HO_7.out).2.2 x14_2 p270 q270; obtain rfl : ad269 = ad270 := (by injection e270); replace p270 := eq_true p270; replace q270 := eq_true q270; obtain ⟨Ao34, co34, eo34⟩ := Kd.S_slice HO_5.out; subst eo34; have p271 : 0 ≤ (x14_2 : Int) := of_decide_eq_true (by first | (with_reducible assumption) | assumption); have q271 : x14_2 < (x7_1.length : Int) := of_decide_eq_true (by first | (with_reducible assumption) | assumption); obtain ⟨ad271, e271, hx271_0⟩ := Kd.at_int (Kd.R_reads' HO_7.out).2.2 x14_2 p271 q271; obtain rfl : ad269 = ad271 := (by injection e271); replace p271 := eq_true p271; replace q271 := eq_true q271; have p272 : 0 ≤ ((rd x7_1 x14_2) : Int) := of_decide_eq_true (by first | (with_reducible assumption) | assumption); have q272 : (rd x7_1 x14_2) < (t251.length : Int) := of_decide_eq_true (by first | (with_reducible assumption) | assumption); obtain ⟨ad272, A272_0, c272_0, A272_1, c272_1, A272_2, c272_2, e272, hx272_0, hx272_1, hx272_2, hl272_0, hi272_0, hl272_1, hi272_1, hl272_2, hi272_2⟩ := at_T50 (Kd.S_reads' HO_5.out).2.2 (rd x7_1 x14_2) p272 q272; cases e272; obtain ⟨ce272, hce272, hMe272, hcc272⟩ := Kd.S_get HO_5.out z50 (rd x7_1 x14_2) p272 (by first | exact q272 | exact of_decide_eq_true (by first | (with_reducible assumption) | assumption) | (have e_ := (Kd.S_reads' HO_5.out).1; omega)); obtain ⟨ve272_0, ve272_1, ve272_2, rfl, ge272_0, ge272_1, ge272_2⟩ := k50_openM hMe272; have hv272_0 := hcc272 0 _ rfl; rw [Nat.add_zero] at hv272_0; replace hv272_0 := Option.some.inj (hv272_0.symm.trans hx272_0); rw [hv272_0] at ge272_0; have HL272_0 := Aside0.mk (show Kd.R k53 53 _ _ _ _ ((rd_T50 t251 (rd x7_1 x14_2)).f0) from ge272_0); clear hv272_0 ge272_0; have hv272_1 := hcc272 1 _ rfl; rw [add_field _ _ 1 (by omega)] at hv272_1; replace hv272_1 := Option.some.inj (hv272_1.symm.trans hx272_1); rw [hv272_1] at ge272_1; have HL272_1 := Aside0.mk (show Kd.R (Kd.int .i64) 3 _ _ _ _ ((rd_T50 t251 (rd x7_1 x14_2)).f1) from ge272_1); clear hv272_1 ge272_1; have hv272_2 := hcc272 2 _ rfl; rw [add_field _ _ 2 (by omega)] at hv272_2; replace hv272_2 := Option.some.inj (hv272_2.symm.trans hx272_2); rw [hv272_2] at ge272_2; have HL272_2 := Aside0.mk (show Kd.R (Kd.int .i64) 3 _ _ _ _ ((rd_T50 t251 (rd x7_1 x14_2)).f2) from ge272_2); clear hv272_2 ge272_2; clear hcc272 hce272; have HR272_0 := Aside0.mk hi272_0; have HC272_0 := Aside0.mk hl272_0; clear hi272_0 hl272_0; have HR272_1 := Aside0.mk hi272_1; have HC272_1 := Aside0.mk hl272_1; clear hi272_1 hl272_1; have HR272_2 := Aside0.mk hi272_2; have HC272_2 := Aside0.mk hl272_2; clear hi272_2 hl272_2; replace p272 := eq_true p272; replace q272 := eq_true q272
                              go_wp2_with (first | ((with_reducible refine gate_builtin (b := .append) (xs := #[.tmp 91, .tmp 99]) rfl ?_); (try (refine gate_guard (by rfl) ?_; dsimp only)); at_builtin; refine Kd.R_append_rows (Kd.int .i64) (w0 := w) w.heap.size rfl (.tmp 91) (.tmp 99) 32 3 (.int .i64 0) 8 rfl Try.underlying32 info3 rfl (by decide) (by omega) u13 x13_2 ((rd_T50 t251 (rd x7_1 x14_2)).f2) _ _ _ (fun k_ => some k_ ≠ (.slice (some ad269) x7_1.length co33 : Value).ownBlock) (fun _ => False) rfl rfl ?aO ?aR (fun _ _ h => h) (fun _ h => h.elim) ?aF ?aB ?aS ?aL ?_; (case aR => repeat (first | exact (by repeat (first | (with_reducible exact HR272_2.out) | (with_reducible refine Kd.C_alloc ?_ _) | (with_reducible refine Kd.C_drewN ?_ _) | (with_reducible refine Kd.C_drew ?_) | exact HR272_2.out)) | (with_reducible refine Kd.C_alloc ?_ _) | (with_reducible refine Kd.C_drewN ?_ _) | (with_reducible refine Kd.C_drew ?_))); (case aB => exact (by repeat (first | (with_reducible first | exact HB.out | apply below_alloc | apply pw_below_drewN | apply below_drew1) | exact HB.out))); (case aF => exact (fun k_ hk => Kd.fresh' (Kd.R_lt (by (with_reducible repeat (first | apply Kd.R_alloc | apply Kd.R_drewN | apply Kd.R_drew)); exact HO_7.out)) k_ hk)); (case aO => exact (by (with_reducible repeat (first | apply Kd.R_alloc | apply Kd.R_drewN | apply Kd.R_drew)); exact HO_13.out)); (case aS => exact (below_size (by repeat (first | (with_reducible first | exact HB.out | apply below_alloc | apply pw_below_drewN | apply below_drew1) | exact HB.out)))); (case aL => have := LMc32.out; omega); intro v274 w35 ho hb hg hat; rw [← Ny273.out] at ho; have n0_ := Aside0.mk (Kd.S_after (ok := (fun k_ => some k_ ≠ (.slice (some ad269) x7_1.length co33 : Value).ownBlock)) (by (with_reducible repeat (first | apply Kd.S_alloc | apply Kd.S_drewN | apply Kd.S_drew)); exact HO_5.out) hg hat); have n1_ := Aside0.mk (Kd.R_after (ok := (fun _ => True)) (by (with_reducible repeat (first | apply Kd.R_alloc | apply Kd.R_drewN | apply Kd.R_drew)); exact Kd.R_mono HO_7.out (fun _ hk => ⟨trivial, hk⟩)) hg hat); have n2_ := Aside0.mk (Kd.R_after (ok := (fun k_ => some k_ ≠ (.slice (some ad272) t251.length co34 : Value).ownBlock ∧ some k_ ≠ (.slice (some ad269) x7_1.length co33 : Value).ownBlock)) (by (with_reducible repeat (first | apply Kd.R_alloc | apply Kd.R_drewN | apply Kd.R_drew)); exact Kd.R_mono HL272_0.out (fun _ hk => ⟨⟨hk.2, hk.1.1⟩, hk.1.2⟩)) hg hat); have n3_ := Aside0.mk (Kd.R_after (ok := (fun k_ => some k_ ≠ (.slice (some ad272) t251.length co34 : Value).ownBlock ∧ some k_ ≠ (.slice (some ad269) x7_1.length co33 : Value).ownBlock)) (by (with_reducible repeat (first | apply Kd.R_alloc | apply Kd.R_drewN | apply Kd.R_drew)); exact Kd.R_mono HL272_1.out (fun _ hk => ⟨⟨hk.2, hk.1.1⟩, hk.1.2⟩)) hg hat); have n4_ := Aside0.mk (Kd.R_after (ok := (fun k_ => some k_ ≠ (.slice (some ad272) t251.length co34 : Value).ownBlock ∧ some k_ ≠ (.slice (some ad269) x7_1.length co33 : Value).ownBlock)) (by (with_reducible repeat (first | apply Kd.R_alloc | apply Kd.R_drewN | apply Kd.R_drew)); exact Kd.R_mono HL272_2.out (fun _ hk => ⟨⟨hk.2, hk.1.1⟩, hk.1.2⟩)) hg hat); have n5_ := Aside0.mk (hb); have n6_ := Aside0.mk (ho); clear HO_5; clear HO_7; clear HL272_0; clear HL272_1; clear HL272_2; clear HB; clear HO_13; have HO_5 := n0_; have HO_7 := n1_; have HL272_0 := n2_; have HL272_1 := n3_; have HL272_2 := n4_; have HB := n5_; have HO275 := n6_; clear n0_ n1_ n2_ n3_ n4_ n5_ n6_; clear ho hb hg hat))
                              go_roundg k2
                              case measure => have := HK1.out; have := HK2.out; omega
                              case rel => exact ⟨(y273), (wrap64 (x14_2 + 1)), (by first | rfl | (simp; done) | (simp [*]; done)), H', ⟨by have := HK1.out; have := HK2.out; omega⟩, ⟨by (with_reducible repeat (first | apply Kd.S_alloc | apply Kd.S_drewN | apply Kd.S_drew)); exact HO_5.out⟩, ⟨by (with_reducible repeat (first | apply Kd.R_alloc | apply Kd.R_drewN | apply Kd.R_drew)); exact Kd.R_mono HO_7.out (fun _ hk => hk.2)⟩, ⟨by (with_reducible repeat (first | apply Kd.R_alloc | apply Kd.R_drewN | apply Kd.R_drew)); exact HO275.out⟩, ⟨by repeat (first | (with_reducible first | exact HB.out | apply below_alloc | apply pw_below_drewN | apply below_drew1) | exact HB.out)⟩⟩
                            · rw [if_neg c32] at H; exact absurd H (by simp)
                          · rw [if_neg c31] at H; exact absurd H (by simp)
                        · rw [if_neg c30] at H; exact absurd H (by simp)
                  · rw [if_neg c27] at H; exact absurd H (by simp)
                · rw [if_neg c26] at H; have c26b0 : decide (x14_2 < (x7_1.length : Int)) = false := decide_eq_false c26; clear c26; have H' := Aside0.mk H; clear H; obtain ⟨Ao36, co36, eo36⟩ := Kd.R_slice HO_7.out; subst eo36
                  go_wp2
                  go_loopg [15, 16] k2 (fun kq v15 v16 w' => ∃ (x15_3 : Int) (x16_3 : Int), v15 = .int .i64 x15_3 ∧ v16 = .int .i64 x16_3 ∧ Aside0 (quarrylaw23_TrieFollows.l3 kq l0 l1 x13_2 x15_3 x16_3 = some r) ∧ Aside0 (kq ≤ k2) ∧ Aside0 (Kd.R (Kd.int .i64) 3 w' w.heap.size (fun _ => True) u13 x13_2) ∧ Aside0 (Below w.heap.size w w'))
                  case atStart => exact ⟨(0), (0), (by first | rfl | (simp; done) | (simp [*]; done)), (by first | rfl | (simp; done) | (simp [*]; done)), H', ⟨Nat.le_refl _⟩, ⟨by (with_reducible repeat (first | apply Kd.R_alloc | apply Kd.R_drewN | apply Kd.R_drew)); exact Kd.R_mono HO_13.out (fun _ hk => trivial)⟩, ⟨by repeat (first | (with_reducible first | exact HB.out | apply below_alloc | apply pw_below_drewN | apply below_drew1) | exact HB.out)⟩⟩
                  case round =>
                    clear H'; (try clear c1); (try clear c2); (try clear p2); (try clear q2); (try clear hx2); (try clear c3); (try clear c4); (try clear c6); (try clear c6b0); (try clear c6b1); (try clear p6); (try clear c8); (try clear c10); (try clear c11); (try clear c11b0); (try clear c12); (try clear c12b0); (try clear c13); (try clear c13b0); (try clear c14); (try clear c14b0); (try clear c15); (try clear c15b0); (try clear c16); (try clear c17); (try clear c17b0); (try clear c17b1); (try clear c18); (try clear c25); (try clear p25); (try clear q25); (try clear hx25); (try clear c26); (try clear c26b0); (try clear p26); (try clear q26); (try clear hx26); (try clear c27); (try clear c27b0); (try clear p27); (try clear q27); (try clear hx27); (try clear c28); (try clear c28b0); (try clear c29); (try clear c29b0); (try clear c30); (try clear c30b0); (try clear c31); (try clear c31b0); (try clear c32); (try clear hx258_0); (try clear hx259_0); (try clear hx259_1); (try clear hx259_2); (try clear hx259_3); (try clear hx260_0); (try clear hx260_1); (try clear hx260_2); (try clear hx260_3); (try clear hx261_0); (try clear hx261_1); (try clear hx261_2); (try clear hx261_3); (try clear hx269_0); (try clear hx270_0); (try clear hx271_0); (try clear hx272_0); (try clear hx272_1); (try clear hx272_2); (try clear p2); (try clear p25); (try clear p258); (try clear p259); (try clear p260); (try clear p261); (try clear p269); (try clear p270); (try clear p271); (try clear p272); (try clear p6); (try clear q2); (try clear q25); (try clear q258); (try clear q259); (try clear q260); (try clear q261); (try clear q269); (try clear q270); (try clear q271); (try clear q272); obtain ⟨x15_3, x16_3, rfl, rfl, HA, HK3, HO_13, HB⟩ := hrel
                    cases gk with
                    | zero => exact absurd HA.out (by simp [quarrylaw23_TrieFollows.l3])
                    | succ k3 =>
                      have H := HA.out; clear HA; simp only [quarrylaw23_TrieFollows.l3] at H
                      by_cases c37 : x16_3 < (l0.length : Int)
                      · rw [if_pos c37] at H; have c37b0 : decide (x16_3 < (l0.length : Int)) = true := decide_eq_true c37; clear c37
                        by_cases c38 : 0 ≤ x16_3
                        · rw [if_pos c38] at H; have c38b0 : decide (0 ≤ x16_3) = true := decide_eq_true c38; clear c38; have HC39 := Aside0.mk H; clear H; have p276 : 0 ≤ (x16_3 : Int) := of_decide_eq_true (by first | (with_reducible assumption) | assumption); have q276 : x16_3 < (l0.length : Int) := of_decide_eq_true (by first | (with_reducible assumption) | assumption); obtain ⟨ad276, A276_0, c276_0, e276, hx276_0, hl276_0, hi276_0⟩ := at_L3 HR0.out x16_3 p276 q276; cases e276; replace hx276_0 := (HB.out.cell (World.block_lt_of_cell? w _ hx276_0)).trans hx276_0; have HR276_0 := Aside0.mk hi276_0; have HC276_0 := Aside0.mk hl276_0; clear hi276_0 hl276_0; replace p276 := eq_true p276; replace q276 := eq_true q276
                          go_upto_block 8 with (fail)
                          go_cut [17] (fun v17 wc => ∃ (kq : Nat) (x17_38 : Bool), v17 = .bool x17_38 ∧ Aside0 (quarrylaw23_TrieFollows.j5 kq l0 l1 x13_2 x15_3 x16_3 x17_38 = some r) ∧ Aside0 (kq ≤ k3) ∧ Aside0 (Kd.R (Kd.int .i64) 3 wc w.heap.size (fun _ => True) u13 x13_2) ∧ Aside0 (Below w.heap.size w wc))
                          case first =>
                            have H := HC39.out; clear HC39; have H' := Aside0.mk H; clear H
                            go_wp2
                            go_loopg [17, 18] k3 (fun kq v17 v18 w' => ∃ (x17_4 : Bool) (x18_4 : Int), v17 = .bool x17_4 ∧ v18 = .int .i64 x18_4 ∧ Aside0 (quarrylaw23_TrieFollows.l4 kq l0 l1 x13_2 x15_3 x16_3 x17_4 x18_4 = some r) ∧ Aside0 (kq ≤ k3) ∧ Aside0 (Kd.R (Kd.int .i64) 3 w' w.heap.size (fun _ => True) u13 x13_2) ∧ Aside0 (Below w.heap.size w w'))
                            case atStart => exact ⟨((((rd_L3 l0 x16_3).length : Int) == (l1.length : Int))), (0), (by first | rfl | (simp; done) | (simp [*]; done)), (by first | rfl | (simp; done) | (simp [*]; done)), H', ⟨Nat.le_refl _⟩, ⟨by (with_reducible repeat (first | apply Kd.R_alloc | apply Kd.R_drewN | apply Kd.R_drew)); exact HO_13.out⟩, ⟨by repeat (first | (with_reducible first | exact HB.out | apply below_alloc | apply pw_below_drewN | apply below_drew1) | exact HB.out)⟩⟩
                            case round =>
                              clear H'; (try clear c1); (try clear c2); (try clear p2); (try clear q2); (try clear hx2); (try clear c3); (try clear c4); (try clear c6); (try clear c6b0); (try clear c6b1); (try clear p6); (try clear c8); (try clear c10); (try clear c11); (try clear c11b0); (try clear c12); (try clear c12b0); (try clear c13); (try clear c13b0); (try clear c14); (try clear c14b0); (try clear c15); (try clear c15b0); (try clear c16); (try clear c17); (try clear c17b0); (try clear c17b1); (try clear c18); (try clear c25); (try clear p25); (try clear q25); (try clear hx25); (try clear c26); (try clear c26b0); (try clear p26); (try clear q26); (try clear hx26); (try clear c27); (try clear c27b0); (try clear p27); (try clear q27); (try clear hx27); (try clear c28); (try clear c28b0); (try clear c29); (try clear c29b0); (try clear c30); (try clear c30b0); (try clear c31); (try clear c31b0); (try clear c32); (try clear c37); (try clear c37b0); (try clear c38); (try clear c38b0); (try clear hx258_0); (try clear hx259_0); (try clear hx259_1); (try clear hx259_2); (try clear hx259_3); (try clear hx260_0); (try clear hx260_1); (try clear hx260_2); (try clear hx260_3); (try clear hx261_0); (try clear hx261_1); (try clear hx261_2); (try clear hx261_3); (try clear hx269_0); (try clear hx270_0); (try clear hx271_0); (try clear hx272_0); (try clear hx272_1); (try clear hx272_2); (try clear hx276_0); (try clear p2); (try clear p25); (try clear p258); (try clear p259); (try clear p26); (try clear p260); (try clear p261); (try clear p269); (try clear p27); (try clear p270); (try clear p271); (try clear p272); (try clear p276); (try clear p6); (try clear q2); (try clear q25); (try clear q258); (try clear q259); (try clear q26); (try clear q260); (try clear q261); (try clear q269); (try clear q27); (try clear q270); (try clear q271); (try clear q272); (try clear q276); obtain ⟨x17_4, x18_4, rfl, rfl, HA, HK4, HO_13, HB⟩ := hrel
                              cases gk with
                              | zero => exact absurd HA.out (by simp [quarrylaw23_TrieFollows.l4])
                              | succ k4 =>
                                have H := HA.out; clear HA; simp only [quarrylaw23_TrieFollows.l4] at H
                                by_cases c40 : x17_4 = true
                                · subst c40
                                  have H1 : (if x18_4 < (l1.length : Int) then (if 0 ≤ x16_3 then (if x16_3 < (l0.length : Int) then (if 0 ≤ x18_4 then (if x18_4 < ((rd_L3 l0 x16_3).length : Int) then ((path_Takes.f ((rd_T53 (rd_L3 l0 x16_3) x18_4).f0) ((rd_T53 (rd_L3 l0 x16_3) x18_4).f1) ((rd_T53 (rd_L3 l0 x16_3) x18_4).f2) ((rd_T38 l1 x18_4).f1) ((rd_T38 l1 x18_4).f2) ((rd_T38 l1 x18_4).f3)).bind fun t282 => (quarrylaw23_TrieFollows.l4 k4 l0 l1 x13_2 x15_3 x16_3 t282 (wrap64 (x18_4 + 1)))) else (none)) else (none)) else (none)) else (none)) else (quarrylaw23_TrieFollows.j5 k4 l0 l1 x13_2 x15_3 x16_3 true)) = some r := by rw [if_pos rfl] at H; exact H
                                  clear H; have H := H1; clear H1
                                  by_cases c41 : x18_4 < (l1.length : Int)
                                  · rw [if_pos c41] at H; have c41b0 : decide (x18_4 < (l1.length : Int)) = true := decide_eq_true c41; clear c41; (first | rw [c41b0] | (simp only [i64_w, i32_w]; rw [c41b0]) | skip)
                                    by_cases c42 : 0 ≤ x16_3
                                    · rw [if_pos c42] at H; have c42b0 : decide (0 ≤ x16_3) = true := decide_eq_true c42; clear c42
                                      by_cases c43 : x16_3 < (l0.length : Int)
                                      · rw [if_pos c43] at H; have c43b0 : decide (x16_3 < (l0.length : Int)) = true := decide_eq_true c43; clear c43
                                        by_cases c44 : 0 ≤ x18_4
                                        · rw [if_pos c44] at H; have c44b0 : decide (0 ≤ x18_4) = true := decide_eq_true c44; clear c44
                                          by_cases c45 : x18_4 < ((rd_L3 l0 x16_3).length : Int)
                                          · rw [if_pos c45] at H; have c45b0 : decide (x18_4 < ((rd_L3 l0 x16_3).length : Int)) = true := decide_eq_true c45; clear c45; replace H := Option.bind_eq_some_iff.mp H; obtain ⟨t282, A460, H⟩ := H; replace H : (quarrylaw23_TrieFollows.l4 k4 l0 l1 x13_2 x15_3 x16_3 t282 (wrap64 (x18_4 + 1))) = some r := H; have A46 := Aside0.mk A460; clear A460; have H' := Aside0.mk H; clear H
                                            try go_wp2
                                            have n0_ := Aside0.mk (Kd.R_drew HO_13.out); have n1_ := Aside0.mk (below_drew1 HB.out); clear HO_13; clear HB; have HO_13 := n0_; have HB := n1_; clear n0_ n1_; have p277 : 0 ≤ (x16_3 : Int) := of_decide_eq_true (by first | (with_reducible assumption) | assumption); have q277 : x16_3 < (l0.length : Int) := of_decide_eq_true (by first | (with_reducible assumption) | assumption); obtain ⟨ad277, A277_0, c277_0, e277, hx277_0, hl277_0, hi277_0⟩ := at_L3 HR0.out x16_3 p277 q277; have hw277_0 := hx277_0; obtain rfl : ad276 = ad277 := (by injection e277); replace hx277_0 := (HB.out.cell (World.block_lt_of_cell? w _ hx277_0)).trans hx277_0; have HR277_0 := Aside0.mk hi277_0; have HC277_0 := Aside0.mk hl277_0; clear hi277_0 hl277_0; replace p277 := eq_true p277; replace q277 := eq_true q277; have p278 : 0 ≤ (x18_4 : Int) := of_decide_eq_true (by first | (with_reducible assumption) | assumption); have q278 : x18_4 < ((rd_L3 l0 x16_3).length : Int) := of_decide_eq_true (by first | (with_reducible assumption) | assumption); obtain ⟨ad278, e278, hx278_0, hx278_1, hx278_2⟩ := at_T53 HR277_0.out x18_4 p278 q278; have hw278_2 := hx278_2; have hw278_1 := hx278_1; have hw278_0 := hx278_0; cases e278; replace hx278_0 := (HB.out.cell (World.block_lt_of_cell? w _ hx278_0)).trans hx278_0; replace hx278_1 := (HB.out.cell (World.block_lt_of_cell? w _ hx278_1)).trans hx278_1; replace hx278_2 := (HB.out.cell (World.block_lt_of_cell? w _ hx278_2)).trans hx278_2; replace p278 := eq_true p278; replace q278 := eq_true q278; have p279 : 0 ≤ (x18_4 : Int) := of_decide_eq_true (by first | (with_reducible assumption) | assumption); have q279 : x18_4 < (l1.length : Int) := of_decide_eq_true (by first | (with_reducible assumption) | assumption); obtain ⟨ad279, e279, hx279_0, hx279_1, hx279_2, hx279_3⟩ := at_T38 HR1.out x18_4 p279 q279; have hw279_3 := hx279_3; have hw279_2 := hx279_2; have hw279_1 := hx279_1; have hw279_0 := hx279_0; cases e279; replace hx279_0 := (HB.out.cell (World.block_lt_of_cell? w _ hx279_0)).trans hx279_0; replace hx279_1 := (HB.out.cell (World.block_lt_of_cell? w _ hx279_1)).trans hx279_1; replace hx279_2 := (HB.out.cell (World.block_lt_of_cell? w _ hx279_2)).trans hx279_2; replace hx279_3 := (HB.out.cell (World.block_lt_of_cell? w _ hx279_3)).trans hx279_3; replace p279 := eq_true p279; replace q279 := eq_true q279; have p280 : 0 ≤ (x18_4 : Int) := of_decide_eq_true (by first | (with_reducible assumption) | assumption); have q280 : x18_4 < (l1.length : Int) := of_decide_eq_true (by first | (with_reducible assumption) | assumption); obtain ⟨ad280, e280, hx280_0, hx280_1, hx280_2, hx280_3⟩ := at_T38 HR1.out x18_4 p280 q280; have hw280_3 := hx280_3; have hw280_2 := hx280_2; have hw280_1 := hx280_1; have hw280_0 := hx280_0; obtain rfl : ad279 = ad280 := (by injection e280); replace hx280_0 := (HB.out.cell (World.block_lt_of_cell? w _ hx280_0)).trans hx280_0; replace hx280_1 := (HB.out.cell (World.block_lt_of_cell? w _ hx280_1)).trans hx280_1; replace hx280_2 := (HB.out.cell (World.block_lt_of_cell? w _ hx280_2)).trans hx280_2; replace hx280_3 := (HB.out.cell (World.block_lt_of_cell? w _ hx280_3)).trans hx280_3; replace p280 := eq_true p280; replace q280 := eq_true q280; have p281 : 0 ≤ (x18_4 : Int) := of_decide_eq_true (by first | (with_reducible assumption) | assumption); have q281 : x18_4 < (l1.length : Int) := of_decide_eq_true (by first | (with_reducible assumption) | assumption); obtain ⟨ad281, e281, hx281_0, hx281_1, hx281_2, hx281_3⟩ := at_T38 HR1.out x18_4 p281 q281; have hw281_3 := hx281_3; have hw281_2 := hx281_2; have hw281_1 := hx281_1; have hw281_0 := hx281_0; obtain rfl : ad279 = ad281 := (by injection e281); replace hx281_0 := (HB.out.cell (World.block_lt_of_cell? w _ hx281_0)).trans hx281_0; replace hx281_1 := (HB.out.cell (World.block_lt_of_cell? w _ hx281_1)).trans hx281_1; replace hx281_2 := (HB.out.cell (World.block_lt_of_cell? w _ hx281_2)).trans hx281_2
                                            replace hx281_3 := (HB.out.cell (World.block_lt_of_cell? w _ hx281_3)).trans hx281_3; replace p281 := eq_true p281; replace q281 := eq_true q281; refine start_ (n := 24) (S := fun w' => w'.cell? (ad276.add (x16_3).toNat) = some (.slice (some ad278) (rd_L3 l0 x16_3).length c277_0) ∧ w'.cell? (ad278.add ((x18_4).toNat * 3)) = some (.int .i64 ((rd_T53 (rd_L3 l0 x16_3) x18_4).f0)) ∧ w'.cell? ⟨(ad278.add ((x18_4).toNat * 3)).block, (ad278.add ((x18_4).toNat * 3)).off + 1, none⟩ = some (.string ((rd_T53 (rd_L3 l0 x16_3) x18_4).f1)) ∧ w'.cell? ⟨(ad278.add ((x18_4).toNat * 3)).block, (ad278.add ((x18_4).toNat * 3)).off + 2, none⟩ = some (.int .i64 ((rd_T53 (rd_L3 l0 x16_3) x18_4).f2)) ∧ w'.cell? (ad279.add ((x18_4).toNat * 4)) = some (.int .i64 ((rd_T38 l1 x18_4).f0)) ∧ w'.cell? ⟨(ad279.add ((x18_4).toNat * 4)).block, (ad279.add ((x18_4).toNat * 4)).off + 1, none⟩ = some (.string ((rd_T38 l1 x18_4).f1)) ∧ w'.cell? ⟨(ad279.add ((x18_4).toNat * 4)).block, (ad279.add ((x18_4).toNat * 4)).off + 2, none⟩ = some (.int .i64 ((rd_T38 l1 x18_4).f2)) ∧ w'.cell? ⟨(ad279.add ((x18_4).toNat * 4)).block, (ad279.add ((x18_4).toNat * 4)).off + 3, none⟩ = some (.bool ((rd_T38 l1 x18_4).f3)) ∧ w'.cell? (ad279.add ((x18_4).toNat * 4)) = some (.int .i64 ((rd_T38 l1 x18_4).f0)) ∧ w'.cell? ⟨(ad279.add ((x18_4).toNat * 4)).block, (ad279.add ((x18_4).toNat * 4)).off + 1, none⟩ = some (.string ((rd_T38 l1 x18_4).f1)) ∧ w'.cell? ⟨(ad279.add ((x18_4).toNat * 4)).block, (ad279.add ((x18_4).toNat * 4)).off + 2, none⟩ = some (.int .i64 ((rd_T38 l1 x18_4).f2)) ∧ w'.cell? ⟨(ad279.add ((x18_4).toNat * 4)).block, (ad279.add ((x18_4).toNat * 4)).off + 3, none⟩ = some (.bool ((rd_T38 l1 x18_4).f3)) ∧ w'.cell? (ad279.add ((x18_4).toNat * 4)) = some (.int .i64 ((rd_T38 l1 x18_4).f0)) ∧ w'.cell? ⟨(ad279.add ((x18_4).toNat * 4)).block, (ad279.add ((x18_4).toNat * 4)).off + 1, none⟩ = some (.string ((rd_T38 l1 x18_4).f1)) ∧ w'.cell? ⟨(ad279.add ((x18_4).toNat * 4)).block, (ad279.add ((x18_4).toNat * 4)).off + 2, none⟩ = some (.int .i64 ((rd_T38 l1 x18_4).f2)) ∧ w'.cell? ⟨(ad279.add ((x18_4).toNat * 4)).block, (ad279.add ((x18_4).toNat * 4)).off + 3, none⟩ = some (.bool ((rd_T38 l1 x18_4).f3))) (ds := []) #[false, false, false, false, false, false, false, false, false, false, false, false, false, false, false, false, false, false, false, false, false, false, false, false] (by kernel_rfl) rfl rfl ⟨((HB.out.cell (World.block_lt_of_cell? w _ hw277_0)).trans hw277_0), ((HB.out.cell (World.block_lt_of_cell? w _ hw278_0)).trans hw278_0), ((HB.out.cell (World.block_lt_of_cell? w _ hw278_1)).trans hw278_1), ((HB.out.cell (World.block_lt_of_cell? w _ hw278_2)).trans hw278_2), ((HB.out.cell (World.block_lt_of_cell? w _ hw279_0)).trans hw279_0), ((HB.out.cell (World.block_lt_of_cell? w _ hw279_1)).trans hw279_1), ((HB.out.cell (World.block_lt_of_cell? w _ hw279_2)).trans hw279_2), ((HB.out.cell (World.block_lt_of_cell? w _ hw279_3)).trans hw279_3), ((HB.out.cell (World.block_lt_of_cell? w _ hw280_0)).trans hw280_0), ((HB.out.cell (World.block_lt_of_cell? w _ hw280_1)).trans hw280_1), ((HB.out.cell (World.block_lt_of_cell? w _ hw280_2)).trans hw280_2), ((HB.out.cell (World.block_lt_of_cell? w _ hw280_3)).trans hw280_3), ((HB.out.cell (World.block_lt_of_cell? w _ hw281_0)).trans hw281_0), ((HB.out.cell (World.block_lt_of_cell? w _ hw281_1)).trans hw281_1), ((HB.out.cell (World.block_lt_of_cell? w _ hw281_2)).trans hw281_2), ((HB.out.cell (World.block_lt_of_cell? w _ hw281_3)).trans hw281_3)⟩ (fun hHeld => ?_); refine with_tabW quarrylaw23_TrieFollows.tab34 quarrylaw23_TrieFollows.bits34 (fun HT_ HW_ => ?_); generalize wr.drew = w47 at HO_13 HB HR277_0 hx277_0 hx278_0 hx278_1 hx278_2 hx279_0 hx279_1 hx279_2 hx279_3 hx280_0 hx280_1 hx280_2 hx280_3 hx281_0 hx281_1 hx281_2 hx281_3 hHeld ⊢
                                            refine pure_ (i := 0) (N := some 124) (v := ?_) (a' := ?_) #[true, false, false, false, false, false, false, false, false, false, false, false, false, false, false, false, false, false, false, false, false, false, false, false] rfl rfl (any_of HT_.out (by kernel_rfl)) (fun _ _ _ h => h) (Or.inl ⟨by rfl, ?_⟩) ?_ ?_; rotate_left
                                            · intro w'; go_simp; (with_reducible rfl)
                                            rotate_left
                                            · simp only [Act.put, List.setIfInBounds_toArray, List.set_cons_zero, List.set_cons_succ, i64_w, i32_w]; rfl
                                            refine pure_ (i := 1) (N := some 125) (v := ?_) (a' := ?_) #[true, true, false, false, false, false, false, false, false, false, false, false, false, false, false, false, false, false, false, false, false, false, false, false] rfl rfl (any_of HT_.out (by kernel_rfl)) (fun _ _ _ h => h) (Or.inl ⟨by rfl, ?_⟩) ?_ ?_; rotate_left
                                            · intro w'; go_simp; (with_reducible rfl)
                                            rotate_left
                                            · simp only [Act.put, List.setIfInBounds_toArray, List.set_cons_zero, List.set_cons_succ, i64_w, i32_w]; rfl
                                            refine pure_ (i := 2) (N := some 126) (v := ?_) (a' := ?_) #[true, true, true, false, false, false, false, false, false, false, false, false, false, false, false, false, false, false, false, false, false, false, false, false] rfl rfl (any_of HT_.out (by kernel_rfl)) (fun _ _ _ h => h) (Or.inl ⟨by rfl, ?_⟩) ?_ ?_; rotate_left
                                            · intro w'; go_simp; (with_reducible rfl)
                                            rotate_left
                                            · simp only [Act.put, List.setIfInBounds_toArray, List.set_cons_zero, List.set_cons_succ, i64_w, i32_w]; rfl
                                            refine pure_ (i := 4) (N := some 128) (v := ?_) (a' := ?_) #[true, true, true, false, true, false, false, false, false, false, false, false, false, false, false, false, false, false, false, false, false, false, false, false] rfl rfl (any_of HT_.out (by kernel_rfl)) (fun _ _ _ h => h) (Or.inl ⟨by rfl, ?_⟩) ?_ ?_; rotate_left
                                            · intro w'; go_simp; (with_reducible rfl)
                                            rotate_left
                                            · simp only [Act.put, List.setIfInBounds_toArray, List.set_cons_zero, List.set_cons_succ, i64_w, i32_w]; rfl
                                            refine pure_ (i := 7) (N := some 131) (v := ?_) (a' := ?_) #[true, true, true, false, true, false, false, true, false, false, false, false, false, false, false, false, false, false, false, false, false, false, false, false] rfl rfl (any_of HT_.out (by kernel_rfl)) (fun _ _ _ h => h) (Or.inl ⟨by rfl, ?_⟩) ?_ ?_; rotate_left
                                            · intro w'; go_simp; (with_reducible rfl)
                                            rotate_left
                                            · simp only [Act.put, List.setIfInBounds_toArray, List.set_cons_zero, List.set_cons_succ, i64_w, i32_w]; rfl
                                            refine pure_ (i := 8) (N := some 132) (v := ?_) (a' := ?_) #[true, true, true, false, true, false, false, true, true, false, false, false, false, false, false, false, false, false, false, false, false, false, false, false] rfl rfl (any_of HT_.out (by kernel_rfl)) (fun _ _ _ h => h) (Or.inl ⟨by rfl, ?_⟩) ?_ ?_; rotate_left
                                            · intro w'; go_simp; (with_reducible rfl)
                                            rotate_left
                                            · simp only [Act.put, List.setIfInBounds_toArray, List.set_cons_zero, List.set_cons_succ, i64_w, i32_w]; rfl
                                            refine pure_ (i := 9) (N := some 133) (v := ?_) (a' := ?_) #[true, true, true, false, true, false, false, true, true, true, false, false, false, false, false, false, false, false, false, false, false, false, false, false] rfl rfl (any_of HT_.out (by kernel_rfl)) (fun _ _ _ h => h) (Or.inl ⟨by rfl, ?_⟩) ?_ ?_; rotate_left
                                            · intro w'; go_simp; (with_reducible rfl)
                                            rotate_left
                                            · simp only [Act.put, List.setIfInBounds_toArray, List.set_cons_zero, List.set_cons_succ, i64_w, i32_w]; rfl
                                            refine pure_ (i := 10) (N := some 134) (v := ?_) (a' := ?_) #[true, true, true, false, true, false, false, true, true, true, true, false, false, false, false, false, false, false, false, false, false, false, false, false] rfl rfl (any_of HT_.out (by kernel_rfl)) (fun _ _ _ h => h) (Or.inl ⟨by rfl, ?_⟩) ?_ ?_; rotate_left
                                            · intro w'; go_simp; (with_reducible rfl)
                                            rotate_left
                                            · simp only [Act.put, List.setIfInBounds_toArray, List.set_cons_zero, List.set_cons_succ, i64_w, i32_w]; rfl
                                            refine pure_ (i := 12) (N := some 136) (v := ?_) (a' := ?_) #[true, true, true, false, true, false, false, true, true, true, true, false, true, false, false, false, false, false, false, false, false, false, false, false] rfl rfl (any_of HT_.out (by kernel_rfl)) (fun _ _ _ h => h) (Or.inl ⟨by rfl, ?_⟩) ?_ ?_; rotate_left
                                            · intro w'; go_simp; (with_reducible rfl)
                                            rotate_left
                                            · simp only [Act.put, List.setIfInBounds_toArray, List.set_cons_zero, List.set_cons_succ, i64_w, i32_w]; rfl
                                            refine pure_ (i := 13) (N := some 137) (v := ?_) (a' := ?_) #[true, true, true, false, true, false, false, true, true, true, true, false, true, true, false, false, false, false, false, false, false, false, false, false] rfl rfl (any_of HT_.out (by kernel_rfl)) (fun _ _ _ h => h) (Or.inl ⟨by rfl, ?_⟩) ?_ ?_; rotate_left
                                            · intro w'; go_simp; (with_reducible rfl)
                                            rotate_left
                                            · simp only [Act.put, List.setIfInBounds_toArray, List.set_cons_zero, List.set_cons_succ, i64_w, i32_w]; rfl
                                            refine pure_ (i := 14) (N := some 138) (v := ?_) (a' := ?_) #[true, true, true, false, true, false, false, true, true, true, true, false, true, true, true, false, false, false, false, false, false, false, false, false] rfl rfl (any_of HT_.out (by kernel_rfl)) (fun _ _ _ h => h) (Or.inl ⟨by rfl, ?_⟩) ?_ ?_; rotate_left
                                            · intro w'; go_simp; (with_reducible rfl)
                                            rotate_left
                                            · simp only [Act.put, List.setIfInBounds_toArray, List.set_cons_zero, List.set_cons_succ, i64_w, i32_w]; rfl
                                            refine pure_ (i := 15) (N := some 139) (v := ?_) (a' := ?_) #[true, true, true, false, true, false, false, true, true, true, true, false, true, true, true, true, false, false, false, false, false, false, false, false] rfl rfl (any_of HT_.out (by kernel_rfl)) (fun _ _ _ h => h) (Or.inl ⟨by rfl, ?_⟩) ?_ ?_; rotate_left
                                            · intro w'; go_simp; (with_reducible rfl)
                                            rotate_left
                                            · simp only [Act.put, List.setIfInBounds_toArray, List.set_cons_zero, List.set_cons_succ, i64_w, i32_w]; rfl
                                            refine pure_ (i := 17) (N := some 141) (v := ?_) (a' := ?_) #[true, true, true, false, true, false, false, true, true, true, true, false, true, true, true, true, false, true, false, false, false, false, false, false] rfl rfl (any_of HT_.out (by kernel_rfl)) (fun _ _ _ h => h) (Or.inl ⟨by rfl, ?_⟩) ?_ ?_; rotate_left
                                            · intro w'; go_simp; (with_reducible rfl)
                                            rotate_left
                                            · simp only [Act.put, List.setIfInBounds_toArray, List.set_cons_zero, List.set_cons_succ, i64_w, i32_w]; rfl
                                            refine pure_ (i := 18) (N := some 142) (v := ?_) (a' := ?_) #[true, true, true, false, true, false, false, true, true, true, true, false, true, true, true, true, false, true, true, false, false, false, false, false] rfl rfl (any_of HT_.out (by kernel_rfl)) (fun _ _ _ h => h) (Or.inl ⟨by rfl, ?_⟩) ?_ ?_; rotate_left
                                            · intro w'; go_simp; (with_reducible rfl)
                                            rotate_left
                                            · simp only [Act.put, List.setIfInBounds_toArray, List.set_cons_zero, List.set_cons_succ, i64_w, i32_w]; rfl
                                            refine pure_ (i := 19) (N := some 143) (v := ?_) (a' := ?_) #[true, true, true, false, true, false, false, true, true, true, true, false, true, true, true, true, false, true, true, true, false, false, false, false] rfl rfl (any_of HT_.out (by kernel_rfl)) (fun _ _ _ h => h) (Or.inl ⟨by rfl, ?_⟩) ?_ ?_; rotate_left
                                            · intro w'; go_simp; (with_reducible rfl)
                                            rotate_left
                                            · simp only [Act.put, List.setIfInBounds_toArray, List.set_cons_zero, List.set_cons_succ, i64_w, i32_w]; rfl
                                            refine pure_ (i := 20) (N := some 144) (v := ?_) (a' := ?_) #[true, true, true, false, true, false, false, true, true, true, true, false, true, true, true, true, false, true, true, true, true, false, false, false] rfl rfl (any_of HT_.out (by kernel_rfl)) (fun _ _ _ h => h) (Or.inl ⟨by rfl, ?_⟩) ?_ ?_; rotate_left
                                            · intro w'; go_simp; (with_reducible rfl)
                                            rotate_left
                                            · simp only [Act.put, List.setIfInBounds_toArray, List.set_cons_zero, List.set_cons_succ, i64_w, i32_w]; rfl
                                            refine take_ (i := 3) (N := some 127) (v := ?_) (a' := ?_) #[true, true, true, true, true, false, false, true, true, true, true, false, true, true, true, true, false, true, true, true, true, false, false, false] rfl rfl (take_ofW HT_.out HW_.out (by kernel_rfl)) (fun _ _ _ h => h) (Or.inl ⟨by rfl, ?_⟩) hHeld ?_ ?_; rotate_left
                                            · rintro w' ⟨s0, s1, s2, s3, s4, s5, s6, s7, s8, s9, s10, s11, s12, s13, s14, s15⟩; go_simp; (with_reducible rfl)
                                            rotate_left
                                            · simp only [Act.put, List.setIfInBounds_toArray, List.set_cons_zero, List.set_cons_succ, i64_w, i32_w]; rfl
                                            refine pure_ (i := 5) (N := some 129) (v := ?_) (a' := ?_) #[true, true, true, true, true, true, false, true, true, true, true, false, true, true, true, true, false, true, true, true, true, false, false, false] rfl rfl (any_of HT_.out (by kernel_rfl)) (fun _ _ _ h => h) (Or.inl ⟨by rfl, ?_⟩) ?_ ?_; rotate_left
                                            · intro w'; go_simp; (with_reducible rfl)
                                            rotate_left
                                            · simp only [Act.put, List.setIfInBounds_toArray, List.set_cons_zero, List.set_cons_succ, i64_w, i32_w]; rfl
                                            refine take_ (i := 6) (N := some 130) (v := ?_) (a' := ?_) #[true, true, true, true, true, true, true, true, true, true, true, false, true, true, true, true, false, true, true, true, true, false, false, false] rfl rfl (take_ofW HT_.out HW_.out (by kernel_rfl)) (fun _ _ _ h => h) (Or.inl ⟨by rfl, ?_⟩) hHeld ?_ ?_; rotate_left
                                            · rintro w' ⟨s0, s1, s2, s3, s4, s5, s6, s7, s8, s9, s10, s11, s12, s13, s14, s15⟩; go_simp; (with_reducible rfl)
                                            rotate_left
                                            · simp only [Act.put, List.setIfInBounds_toArray, List.set_cons_zero, List.set_cons_succ, i64_w, i32_w]; rfl
                                            refine take_ (i := 11) (N := some 135) (v := ?_) (a' := ?_) #[true, true, true, true, true, true, true, true, true, true, true, true, true, true, true, true, false, true, true, true, true, false, false, false] rfl rfl (take_ofW HT_.out HW_.out (by kernel_rfl)) (fun _ _ _ h => h) (Or.inl ⟨by rfl, ?_⟩) hHeld ?_ ?_; rotate_left
                                            · rintro w' ⟨s0, s1, s2, s3, s4, s5, s6, s7, s8, s9, s10, s11, s12, s13, s14, s15⟩; go_simp; (with_reducible rfl)
                                            rotate_left
                                            · simp only [Act.put, List.setIfInBounds_toArray, List.set_cons_zero, List.set_cons_succ, i64_w, i32_w]; rfl
                                            refine take_ (i := 16) (N := some 140) (v := ?_) (a' := ?_) #[true, true, true, true, true, true, true, true, true, true, true, true, true, true, true, true, true, true, true, true, true, false, false, false] rfl rfl (take_ofW HT_.out HW_.out (by kernel_rfl)) (fun _ _ _ h => h) (Or.inl ⟨by rfl, ?_⟩) hHeld ?_ ?_; rotate_left
                                            · rintro w' ⟨s0, s1, s2, s3, s4, s5, s6, s7, s8, s9, s10, s11, s12, s13, s14, s15⟩; go_simp; (with_reducible rfl)
                                            rotate_left
                                            · simp only [Act.put, List.setIfInBounds_toArray, List.set_cons_zero, List.set_cons_succ, i64_w, i32_w]; rfl
                                            refine take_ (i := 21) (N := some 145) (v := ?_) (a' := ?_) #[true, true, true, true, true, true, true, true, true, true, true, true, true, true, true, true, true, true, true, true, true, true, false, false] rfl rfl (take_ofW HT_.out HW_.out (by kernel_rfl)) (fun _ _ _ h => h) (Or.inl ⟨by rfl, ?_⟩) hHeld ?_ ?_; rotate_left
                                            · rintro w' ⟨s0, s1, s2, s3, s4, s5, s6, s7, s8, s9, s10, s11, s12, s13, s14, s15⟩; go_simp; (with_reducible rfl)
                                            rotate_left
                                            · simp only [Act.put, List.setIfInBounds_toArray, List.set_cons_zero, List.set_cons_succ, i64_w, i32_w]; rfl
                                            refine one_ (i := 22) (N := some 146) #[true, true, true, true, true, true, true, true, true, true, true, true, true, true, true, true, true, true, true, true, true, true, true, false] rfl rfl (one_of HT_.out (by kernel_rfl)) (by decide) (fun K hK => ?_); refine goes_ Try.func29 (by kernel_rfl) rfl #[.agg #[.int .i64 ((rd_T53 (rd_L3 l0 x16_3) x18_4).f0), .string ((rd_T53 (rd_L3 l0 x16_3) x18_4).f1), .int .i64 ((rd_T53 (rd_L3 l0 x16_3) x18_4).f2)], .string ((rd_T38 l1 x18_4).f1), .int .i64 ((rd_T38 l1 x18_4).f2), .bool ((rd_T38 l1 x18_4).f3)] (by rfl) rfl rfl (by (try simp only [List.map_toArray, List.map_cons, List.map_nil]); first | done | rfl | (simp only [List.length_drop, List.length_take]; rfl)) ?_; (with_reducible refine (path_Takes.calls ((rd_T53 (rd_L3 l0 x16_3) x18_4).f0) ((rd_T53 (rd_L3 l0 x16_3) x18_4).f1) ((rd_T53 (rd_L3 l0 x16_3) x18_4).f2) ((rd_T38 l1 x18_4).f1) ((rd_T38 l1 x18_4).f2) ((rd_T38 l1 x18_4).f3) t282 _ A46.out).mono ?_); rintro e w48 ⟨rfl, hb⟩; refine ⟨_, rfl, ?_⟩; have n0_ := Aside0.mk (Kd.R_below (by (with_reducible repeat (first | apply Kd.R_alloc | apply Kd.R_drewN | apply Kd.R_drew)); exact HO_13.out) hb); have n1_ := Aside0.mk (below_step (by repeat (first | (with_reducible first | exact HB.out | apply below_alloc | apply pw_below_drewN | apply below_drew1) | exact HB.out)) hb); clear HO_13; clear HB; have HO_13 := n0_; have HB := n1_; clear n0_ n1_; (try clear hb); (try clear hb2); (try clear hk); (try clear hi); refine hK.out _ _ ⟨((HB.out.cell (World.block_lt_of_cell? w _ hw277_0)).trans hw277_0), ((HB.out.cell (World.block_lt_of_cell? w _ hw278_0)).trans hw278_0), ((HB.out.cell (World.block_lt_of_cell? w _ hw278_1)).trans hw278_1), ((HB.out.cell (World.block_lt_of_cell? w _ hw278_2)).trans hw278_2), ((HB.out.cell (World.block_lt_of_cell? w _ hw279_0)).trans hw279_0), ((HB.out.cell (World.block_lt_of_cell? w _ hw279_1)).trans hw279_1), ((HB.out.cell (World.block_lt_of_cell? w _ hw279_2)).trans hw279_2), ((HB.out.cell (World.block_lt_of_cell? w _ hw279_3)).trans hw279_3), ((HB.out.cell (World.block_lt_of_cell? w _ hw280_0)).trans hw280_0), ((HB.out.cell (World.block_lt_of_cell? w _ hw280_1)).trans hw280_1), ((HB.out.cell (World.block_lt_of_cell? w _ hw280_2)).trans hw280_2), ((HB.out.cell (World.block_lt_of_cell? w _ hw280_3)).trans hw280_3), ((HB.out.cell (World.block_lt_of_cell? w _ hw281_0)).trans hw281_0), ((HB.out.cell (World.block_lt_of_cell? w _ hw281_1)).trans hw281_1), ((HB.out.cell (World.block_lt_of_cell? w _ hw281_2)).trans hw281_2), ((HB.out.cell (World.block_lt_of_cell? w _ hw281_3)).trans hw281_3)⟩ (fun hHeld => ?_); clear hK K; refine norm_ (a' := ?_) ?_ ?_; rotate_left
                                            · show Act.put _ (some 146) _ = _
                                              simp only [Act.put, List.setIfInBounds_toArray, List.set_cons_zero, List.set_cons_succ, i64_w, i32_w]; rfl
                                            refine pure_ (i := 23) (N := some 17) (v := ?_) (a' := ?_) #[true, true, true, true, true, true, true, true, true, true, true, true, true, true, true, true, true, true, true, true, true, true, true, true] rfl rfl (any_of HT_.out (by kernel_rfl)) (fun _ _ _ h => h) (Or.inl ⟨by rfl, ?_⟩) ?_ ?_; rotate_left
                                            · intro w'; go_simp; (with_reducible rfl)
                                            rotate_left
                                            · simp only [Act.put, List.setIfInBounds_toArray, List.set_cons_zero, List.set_cons_succ, i64_w, i32_w]; rfl
                                            refine done_ (done_of HT_.out (by kernel_rfl)) ?_
                                            try go_wp2
                                            go_roundg k4
                                            case measure => have := HK1.out; have := HK2.out; have := HK3.out; have := HK4.out; omega
                                            case rel => exact ⟨(t282), (wrap64 (x18_4 + 1)), (by first | rfl | (simp; done) | (simp [*]; done)), (by first | rfl | (simp; done) | (simp [*]; done)), H', ⟨by have := HK1.out; have := HK2.out; have := HK3.out; have := HK4.out; omega⟩, ⟨by (with_reducible repeat (first | apply Kd.R_alloc | apply Kd.R_drewN | apply Kd.R_drew)); exact HO_13.out⟩, ⟨by repeat (first | (with_reducible first | exact HB.out | apply below_alloc | apply pw_below_drewN | apply below_drew1) | exact HB.out)⟩⟩
                                          · rw [if_neg c45] at H; exact absurd H (by simp)
                                        · rw [if_neg c44] at H; exact absurd H (by simp)
                                      · rw [if_neg c43] at H; exact absurd H (by simp)
                                    · rw [if_neg c42] at H; exact absurd H (by simp)
                                  · rw [if_neg c41] at H; have c41b0 : decide (x18_4 < (l1.length : Int)) = false := decide_eq_false c41; clear c41; (first | rw [c41b0] | (simp only [i64_w, i32_w]; rw [c41b0]) | skip); have H' := Aside0.mk H; clear H
                                    go_wp2
                                    go_meet
                                    case rel => exact ⟨_, (true), (by first | rfl | (simp; done) | (simp [*]; done)), H', ⟨by have := HK1.out; have := HK2.out; have := HK3.out; have := HK4.out; first | omega | exact Nat.le_refl _⟩, ⟨by (with_reducible repeat (first | apply Kd.R_alloc | apply Kd.R_drewN | apply Kd.R_drew)); exact HO_13.out⟩, ⟨by repeat (first | (with_reducible first | exact HB.out | apply below_alloc | apply pw_below_drewN | apply below_drew1) | exact HB.out)⟩⟩
                                · replace c40 := Bool.eq_false_iff.mpr c40; subst c40
                                  have H1 : (quarrylaw23_TrieFollows.j5 k4 l0 l1 x13_2 x15_3 x16_3 false) = some r := by rw [if_neg (show ¬ (false = true) by decide)] at H; exact H
                                  clear H; have H := H1; clear H1; have H' := Aside0.mk H; clear H
                                  go_wp2
                                  go_meet
                                  case rel => exact ⟨_, (false), (by first | rfl | (simp; done) | (simp [*]; done)), H', ⟨by have := HK1.out; have := HK2.out; have := HK3.out; have := HK4.out; first | omega | exact Nat.le_refl _⟩, ⟨by (with_reducible repeat (first | apply Kd.R_alloc | apply Kd.R_drewN | apply Kd.R_drew)); exact HO_13.out⟩, ⟨by repeat (first | (with_reducible first | exact HB.out | apply below_alloc | apply pw_below_drewN | apply below_drew1) | exact HB.out)⟩⟩
                          case rest =>
                            clear HC39; (try clear c1); (try clear c2); (try clear p2); (try clear q2); (try clear hx2); (try clear c3); (try clear c4); (try clear c6); (try clear c6b0); (try clear c6b1); (try clear p6); (try clear c8); (try clear c10); (try clear c11); (try clear c11b0); (try clear c12); (try clear c12b0); (try clear c13); (try clear c13b0); (try clear c14); (try clear c14b0); (try clear c15); (try clear c15b0); (try clear c16); (try clear c17); (try clear c17b0); (try clear c17b1); (try clear c18); (try clear c25); (try clear p25); (try clear q25); (try clear hx25); (try clear c26); (try clear c26b0); (try clear p26); (try clear q26); (try clear hx26); (try clear c27); (try clear c27b0); (try clear p27); (try clear q27); (try clear hx27); (try clear c28); (try clear c28b0); (try clear p28); (try clear q28); (try clear hx28); (try clear c29); (try clear c29b0); (try clear c30); (try clear c30b0); (try clear c31); (try clear c31b0); (try clear c32); (try clear c37); (try clear c37b0); (try clear c38); (try clear c38b0); (try clear c40); (try clear c41); (try clear c41b0); (try clear c42); (try clear c42b0); (try clear c43); (try clear c43b0); (try clear c44); (try clear c44b0); (try clear c45); (try clear c45b0); (try clear hx258_0); (try clear hx259_0); (try clear hx259_1); (try clear hx259_2); (try clear hx259_3); (try clear hx260_0); (try clear hx260_1); (try clear hx260_2); (try clear hx260_3); (try clear hx261_0); (try clear hx261_1); (try clear hx261_2); (try clear hx261_3); (try clear hx269_0); (try clear hx270_0); (try clear hx271_0); (try clear hx272_0); (try clear hx272_1); (try clear hx272_2); (try clear hx276_0); (try clear hx277_0); (try clear hx278_0); (try clear hx278_1); (try clear hx278_2); (try clear hx279_0); (try clear hx279_1); (try clear hx279_2); (try clear hx279_3); (try clear hx280_0); (try clear hx280_1); (try clear hx280_2); (try clear hx280_3); (try clear hx281_0); (try clear hx281_1); (try clear hx281_2); (try clear hx281_3); (try clear p2); (try clear p25); (try clear p258); (try clear p259); (try clear p26); (try clear p260); (try clear p261); (try clear p269); (try clear p27); (try clear p270); (try clear p271); (try clear p272); (try clear p276); (try clear p277); (try clear p278); (try clear p279); (try clear p280); (try clear p281); (try clear p6); (try clear q2); (try clear q25); (try clear q258); (try clear q259); (try clear q26); (try clear q260); (try clear q261); (try clear q269); (try clear q27); (try clear q270); (try clear q271); (try clear q272); (try clear q276); (try clear q277); (try clear q278); (try clear q279); (try clear q280); (try clear q281); obtain ⟨kq, x17_38, rfl, HA, HJ38, HO_13, HB⟩ := hcut
                            cases kq with
                            | zero => exact absurd HA.out (by simp [quarrylaw23_TrieFollows.j5])
                            | succ kj38 =>
                              have H := HA.out; clear HA; simp only [quarrylaw23_TrieFollows.j5] at H; replace H := Option.bind_eq_some_iff.mp H; obtain ⟨t283, A490, H⟩ := H; replace H : (if (x17_38 != t283) = true then (none) else (if x17_38 = true then (quarrylaw23_TrieFollows.l3 kj38 l0 l1 x13_2 (wrap64 (x15_3 + 1)) (wrap64 (x16_3 + 1))) else (quarrylaw23_TrieFollows.l3 kj38 l0 l1 x13_2 x15_3 (wrap64 (x16_3 + 1))))) = some r := H; have A49 := Aside0.mk A490; clear A490
                              by_cases c50 : (x17_38 != t283) = true
                              · rw [if_pos c50] at H; exact absurd H (by simp)
                              · rw [if_neg c50] at H
                                have c50b0 : (x17_38 != t283) = false := by simpa using c50
                                (try (have c50b1 : decide (x17_38 = t283) = true := by simpa using c50)); (try (have c50b2 : (x17_38 == t283) = true := by simpa using c50)); clear c50
                                by_cases c51 : x17_38 = true
                                · subst c51
                                  have H1 : (quarrylaw23_TrieFollows.l3 kj38 l0 l1 x13_2 (wrap64 (x15_3 + 1)) (wrap64 (x16_3 + 1))) = some r := by rw [if_pos rfl] at H; exact H
                                  clear H; have H := H1; clear H1; have H' := Aside0.mk H; clear H; obtain ⟨Ao52, co52, eo52⟩ := Kd.R_slice HO_13.out; subst eo52
                                  go_wp2_with (first | ((with_reducible refine gate_callee (f := 30) rfl ?_); refine goesL_ (some 150) rfl rfl Try.func30 (by kernel_rfl) rfl #[.slice Ao52 x13_2.length co52, .int .i64 x16_3] rfl (by (try simp only [List.map_toArray, List.map_cons, List.map_nil]); first | done | rfl | (simp only [List.length_drop, List.length_take]; rfl)) ?_; (with_reducible refine (quarryref00_HasInt.calls kj38 _ _ x13_2 x16_3 t283 _ ?side1 ?side2 A49.out).mono ?_); (case side1 => repeat (first | exact (Kd.R_reads' HO_13.out).2.2 | (with_reducible refine Kd.C_alloc ?_ _) | (with_reducible refine Kd.C_drewN ?_ _) | (with_reducible refine Kd.C_drew ?_))); (case side2 => exact (Kd.R_reads' HO_13.out).2.1); rintro e w' ⟨rfl, ⟨nd, rfl⟩⟩; refine ⟨_, rfl, ?_⟩))
                                  go_roundg kj38
                                  case measure => have := HK1.out; have := HK2.out; have := HK3.out; have := HJ38.out; omega
                                  case rel => exact ⟨(wrap64 (x15_3 + 1)), (wrap64 (x16_3 + 1)), (by first | rfl | (simp; done) | (simp [*]; done)), (by first | rfl | (simp; done) | (simp [*]; done)), H', ⟨by have := HK1.out; have := HK2.out; have := HK3.out; have := HJ38.out; omega⟩, ⟨by (with_reducible repeat (first | apply Kd.R_alloc | apply Kd.R_drewN | apply Kd.R_drew)); exact HO_13.out⟩, ⟨by repeat (first | (with_reducible first | exact HB.out | apply below_alloc | apply pw_below_drewN | apply below_drew1) | exact HB.out)⟩⟩
                                · replace c51 := Bool.eq_false_iff.mpr c51; subst c51
                                  have H1 : (quarrylaw23_TrieFollows.l3 kj38 l0 l1 x13_2 x15_3 (wrap64 (x16_3 + 1))) = some r := by rw [if_neg (show ¬ (false = true) by decide)] at H; exact H
                                  clear H; have H := H1; clear H1; have H' := Aside0.mk H; clear H; obtain ⟨Ao53, co53, eo53⟩ := Kd.R_slice HO_13.out; subst eo53
                                  go_wp2_with (first | ((with_reducible refine gate_callee (f := 30) rfl ?_); refine goesL_ (some 150) rfl rfl Try.func30 (by kernel_rfl) rfl #[.slice Ao53 x13_2.length co53, .int .i64 x16_3] rfl (by (try simp only [List.map_toArray, List.map_cons, List.map_nil]); first | done | rfl | (simp only [List.length_drop, List.length_take]; rfl)) ?_; (with_reducible refine (quarryref00_HasInt.calls kj38 _ _ x13_2 x16_3 t283 _ ?side1 ?side2 A49.out).mono ?_); (case side1 => repeat (first | exact (Kd.R_reads' HO_13.out).2.2 | (with_reducible refine Kd.C_alloc ?_ _) | (with_reducible refine Kd.C_drewN ?_ _) | (with_reducible refine Kd.C_drew ?_))); (case side2 => exact (Kd.R_reads' HO_13.out).2.1); rintro e w' ⟨rfl, ⟨nd, rfl⟩⟩; refine ⟨_, rfl, ?_⟩))
                                  go_roundg kj38
                                  case measure => have := HK1.out; have := HK2.out; have := HK3.out; have := HJ38.out; omega
                                  case rel => exact ⟨(x15_3), (wrap64 (x16_3 + 1)), (by first | rfl | (simp; done) | (simp [*]; done)), (by first | rfl | (simp; done) | (simp [*]; done)), H', ⟨by have := HK1.out; have := HK2.out; have := HK3.out; have := HJ38.out; omega⟩, ⟨by (with_reducible repeat (first | apply Kd.R_alloc | apply Kd.R_drewN | apply Kd.R_drew)); exact HO_13.out⟩, ⟨by repeat (first | (with_reducible first | exact HB.out | apply below_alloc | apply pw_below_drewN | apply below_drew1) | exact HB.out)⟩⟩
                        · rw [if_neg c38] at H; exact absurd H (by simp)
                      · rw [if_neg c37] at H; have c37b0 : decide (x16_3 < (l0.length : Int)) = false := decide_eq_false c37; clear c37; obtain rfl := Option.some.inj H; obtain ⟨Ao54, co54, eo54⟩ := Kd.R_slice HO_13.out; subst eo54
                        go_wp2
                        go_ret
                        exact ⟨by first | rfl | (simp [errW_none, errW_some] <;> rfl) | (simp [*, errW_none, errW_some] <;> rfl), by repeat (first | (with_reducible first | exact HB.out | apply below_alloc | apply pw_below_drewN | apply below_drew1) | exact HB.out)⟩
    · rw [if_neg c6] at H; have c6b0 : (t252 == 0) = false := beq_eq_false_iff_ne.mpr c6; have c6b1 : (t252 != 0) = true := bne_iff_ne.mpr c6; obtain rfl := Option.some.inj H
      go_enter Try.func8, Try.ntmps8
      go_wp2_with (first | ((with_reducible refine gate_callee (f := 25) rfl ?_); refine goesL_ (some 19) rfl rfl Try.func25 (by kernel_rfl) rfl #[] rfl (by (try simp only [List.map_toArray, List.map_cons, List.map_nil]); first | done | rfl | (simp only [List.length_drop, List.length_take]; rfl)) ?_; (with_reducible refine (quarrylaw23_awake.calls k  true _ A3.out).mono ?_); rintro e w55 ⟨rfl, hb⟩; refine ⟨_, rfl, ?_⟩; have n0_ := Aside0.mk (below_step (by repeat (first | (with_reducible first | exact HB.out | apply below_alloc | apply pw_below_drewN | apply below_drew1) | exact HB.out)) hb); clear HB; have HB := n0_; clear n0_; (try clear hb); (try clear hb2); (try clear hk); (try clear hi)) | ((with_reducible refine gate_callee (f := 10) rfl ?_); refine goesL_ (some 23) rfl rfl Try.func10 (by kernel_rfl) rfl #[.slice A0 l0.length c0] rfl (by (try simp only [List.map_toArray, List.map_cons, List.map_nil]); first | done | rfl | (simp only [List.length_drop, List.length_take]; rfl)) ?_; (with_reducible refine (trie_Build.calls _ _ l0 t251 t252 _ ?side1 ?side2 A5.out).mono ?_); (case side1 => repeat (first | exact (Kd.C_below HR0.out HB.out) | (with_reducible refine Kd.C_alloc ?_ _) | (with_reducible refine Kd.C_drewN ?_ _) | (with_reducible refine Kd.C_drew ?_))); (case side2 => exact HC0.out); rintro e w56 ⟨v253, rfl, ho0, hb⟩; refine ⟨_, rfl, ?_⟩; have n0_ := Aside0.mk (Kd.S_lower ho0 (below_size (by repeat (first | (with_reducible first | exact HB.out | apply below_alloc | apply pw_below_drewN | apply below_drew1) | exact HB.out)))); have n1_ := Aside0.mk (below_step (by repeat (first | (with_reducible first | exact HB.out | apply below_alloc | apply pw_below_drewN | apply below_drew1) | exact HB.out)) hb); clear HB; have HO254 := n0_; have HB := n1_; clear n0_ n1_; (try clear hb); (try clear hb2); (try clear hk); (try clear hi); (try clear ho0)))
      go_ret
      exact ⟨by first | rfl | (simp [errW_none, errW_some] <;> rfl) | (simp [*, errW_none, errW_some] <;> rfl), by repeat (first | (with_reducible first | exact HB.out | apply below_alloc | apply pw_below_drewN | apply below_drew1) | exact HB.out)⟩
  · replace c4 := Bool.eq_false_iff.mpr c4; subst c4
    have H1 : (none) = some r := by rw [if_neg (show ¬ (false = true) by decide)] at H; exact H
    clear H; have H := H1; clear H1; exact absurd H (by simp)

end Go.Proofs.Ythlneooboiphdaa.PTrieFollows
