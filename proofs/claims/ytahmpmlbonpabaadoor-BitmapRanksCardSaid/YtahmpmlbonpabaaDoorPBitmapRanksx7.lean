/- The machine side of a statement, laid by the kit's print program, run by wip/tools/gprint.py: some functions' contracts are given, proved by hand. -/
import Derived.Test.YtahmpmlbonpabaaDoorPBitmapRanksx0
import Derived.Test.YtahmpmlbonpabaaDoorPBitmapRanksx1
import Derived.Test.YtahmpmlbonpabaaDoorPBitmapRanksx2
import Derived.Test.YtahmpmlbonpabaaDoorPBitmapRanksx3
import Derived.Test.YtahmpmlbonpabaaDoorPBitmapRanksx6
namespace Go.Proofs.YtahmpmlbonpabaaDoor.PBitmapRanks
open Go.RowKit Go.Proofs.YtahmpmlbonpabaaDoorW.PrintWords Go.Proofs.YtahmpmlbonpabaaDoorW.PrintLast Go.Proofs.YtahmpmlbonpabaaDoorW.PrintMore
attribute [local go_sem] max2_int min2_int max_two min_two max_three min_three max_four min_four   -- for this text's walks alone
set_option linter.unusedVariables false
set_option linter.unusedSimpArgs false

/-! ### quarrylaw04_BitmapRanks: function 4 -/
mutual
def quarrylaw04_BitmapRanks.j0 : Nat → Int → Int → Int → Bool → Int → List Int → Option (Bool)
  | 0, _, _, _, _, _, _ => none
  | k + 1, x1, x2, x7, x49, x197000, x197001 => if x49 = true then ((quarrykit_Pick.f x1 (wrap64 (x197000 + 1))).bind fun t204 => (quarrylaw04_BitmapRanks.j1 k t204 x2 x7 x197000 x197001)) else (quarrylaw04_BitmapRanks.j1 k x1 x2 x7 x197000 x197001)
def quarrylaw04_BitmapRanks.j1 : Nat → Int → Int → Int → Int → List Int → Option (Bool)
  | 0, _, _, _, _, _ => none
  | k + 1, x1, x2, x7, x197000, x197001 => (bitmap_Count.f k x197000 x197001 0 x1).bind fun t205 => ((bitmap_Count.f k x197000 x197001 x1 x197000).bind fun t206 => ((bitmap_Next.f k x197000 x197001 x1).bind fun t207 => ((bitmap_Last.f k x197000 x197001 x1).bind fun t208 => (if (wrap64 (t205 + t206)) = x7 then (if t205 < 0 then (quarrylaw04_BitmapRanks.j2 k x1 x2 x7 t205 t207 t208 true x197000 x197001) else (if t206 < 0 then (quarrylaw04_BitmapRanks.j2 k x1 x2 x7 t205 t207 t208 true x197000 x197001) else ((bitmap_Select.f k x197000 x197001 t205).bind fun t209 => (if t207 = t209 then ((bitmap_Select.f k x197000 x197001 (wrap64 (t205 - 1))).bind fun t210 => (if t208 = t210 then (if ((decide (t207 < 0)) != (t206 == 0)) = true then (quarrylaw04_BitmapRanks.j2 k x1 x2 x7 t205 t207 t208 true x197000 x197001) else (quarrylaw04_BitmapRanks.j2 k x1 x2 x7 t205 t207 t208 ((decide (t208 < 0)) != (t205 == 0)) x197000 x197001)) else (quarrylaw04_BitmapRanks.j2 k x1 x2 x7 t205 t207 t208 true x197000 x197001))) else (quarrylaw04_BitmapRanks.j2 k x1 x2 x7 t205 t207 t208 true x197000 x197001))))) else (quarrylaw04_BitmapRanks.j2 k x1 x2 x7 t205 t207 t208 true x197000 x197001)))))
def quarrylaw04_BitmapRanks.j2 : Nat → Int → Int → Int → Int → Int → Int → Bool → Int → List Int → Option (Bool)
  | 0, _, _, _, _, _, _, _, _, _ => none
  | k + 1, x1, x2, x7, x8, x10, x11, x110, x197000, x197001 => if x110 = true then (none) else (if x10 ≥ 0 then (if x10 < x1 then (quarrylaw04_BitmapRanks.j3 k x1 x2 x7 x8 x10 x11 true x197000 x197001) else ((bitmap_Get.f x197000 x197001 x10).bind fun t211 => (if t211 = true then ((bitmap_Count.f k x197000 x197001 x1 x10).bind fun t212 => (quarrylaw04_BitmapRanks.j3 k x1 x2 x7 x8 x10 x11 (t212 != 0) x197000 x197001)) else (quarrylaw04_BitmapRanks.j3 k x1 x2 x7 x8 x10 x11 true x197000 x197001)))) else (quarrylaw04_BitmapRanks.j3 k x1 x2 x7 x8 x10 x11 false x197000 x197001))
def quarrylaw04_BitmapRanks.j3 : Nat → Int → Int → Int → Int → Int → Int → Bool → Int → List Int → Option (Bool)
  | 0, _, _, _, _, _, _, _, _, _ => none
  | k + 1, x1, x2, x7, x8, x10, x11, x130, x197000, x197001 => if x130 = true then (none) else (if x11 ≥ 0 then (if x11 ≥ x1 then (quarrylaw04_BitmapRanks.j4 k x1 x2 x7 x10 true x197000 x197001) else ((bitmap_Get.f x197000 x197001 x11).bind fun t213 => (if t213 = true then ((bitmap_Count.f k x197000 x197001 (wrap64 (x11 + 1)) x1).bind fun t214 => (if t214 = 0 then ((bitmap_Count.f k x197000 x197001 0 x11).bind fun t215 => (quarrylaw04_BitmapRanks.j4 k x1 x2 x7 x10 (t215 != (wrap64 (x8 - 1))) x197000 x197001)) else (quarrylaw04_BitmapRanks.j4 k x1 x2 x7 x10 true x197000 x197001))) else (quarrylaw04_BitmapRanks.j4 k x1 x2 x7 x10 true x197000 x197001)))) else (quarrylaw04_BitmapRanks.j4 k x1 x2 x7 x10 false x197000 x197001))
def quarrylaw04_BitmapRanks.j4 : Nat → Int → Int → Int → Int → Bool → Int → List Int → Option (Bool)
  | 0, _, _, _, _, _, _, _ => none
  | k + 1, x1, x2, x7, x10, x159, x197000, x197001 => if x159 = true then (none) else ((bitmap_Get.f x197000 x197001 x1).bind fun t216 => (if (t216 != (x10 == x1)) = true then (none) else ((bitmap_Select.f k x197000 x197001 x2).bind fun t217 => (if x2 < 0 then (quarrylaw04_BitmapRanks.j5 k x2 t217 true x197000 x197001) else (quarrylaw04_BitmapRanks.j5 k x2 t217 (decide (x2 ≥ x7)) x197000 x197001)))))
def quarrylaw04_BitmapRanks.j5 : Nat → Int → Int → Bool → Int → List Int → Option (Bool)
  | 0, _, _, _, _, _ => none
  | k + 1, x2, x12, x176, x197000, x197001 => if x176 = true then (some (x12 == (-1))) else (if x12 ≥ 0 then (if x12 < x197000 then ((bitmap_Get.f x197000 x197001 x12).bind fun t218 => (if t218 = true then ((bitmap_Count.f k x197000 x197001 0 x12).bind fun t219 => (some (t219 == x2))) else (none))) else (none)) else (none))
end
def quarrylaw04_BitmapRanks.f (k : Nat) (a0_0 : Int) (l0_1 : List Int) (a1 : Int) (a2 : Int) : Option (Bool) := (quarrylaw04_awake.f k).bind fun t197 => (if t197 = true then ((bitmap_Formed.f a0_0 l0_1).bind fun t198 => (if t198 = true then ((bitmap_Count.f k a0_0 l0_1 0 a0_0).bind fun t203 => (if a1 < 0 then (quarrylaw04_BitmapRanks.j0 k a1 a2 t203 true a0_0 l0_1) else (quarrylaw04_BitmapRanks.j0 k a1 a2 t203 (decide (a1 > a0_0)) a0_0 l0_1))) else ((bitmap_Count.f k a0_0 l0_1 0 a1).bind fun t199 => (if t199 = 0 then ((bitmap_Select.f k a0_0 l0_1 0).bind fun t200 => (if t200 = (-1) then ((bitmap_Next.f k a0_0 l0_1 0).bind fun t201 => (if t201 = (-1) then ((bitmap_Last.f k a0_0 l0_1 a1).bind fun t202 => (some (t202 == (-1)))) else (none))) else (none))) else (none))))) else (none))
theorem quarrylaw04_BitmapRanks.mono_l : ∀ k, (∀ y0 y1 y2 y3 y4 y5, LeO (quarrylaw04_BitmapRanks.j0 k y0 y1 y2 y3 y4 y5) (quarrylaw04_BitmapRanks.j0 (k + 1) y0 y1 y2 y3 y4 y5)) ∧ (∀ y0 y1 y2 y3 y4, LeO (quarrylaw04_BitmapRanks.j1 k y0 y1 y2 y3 y4) (quarrylaw04_BitmapRanks.j1 (k + 1) y0 y1 y2 y3 y4)) ∧ (∀ y0 y1 y2 y3 y4 y5 y6 y7 y8, LeO (quarrylaw04_BitmapRanks.j2 k y0 y1 y2 y3 y4 y5 y6 y7 y8) (quarrylaw04_BitmapRanks.j2 (k + 1) y0 y1 y2 y3 y4 y5 y6 y7 y8)) ∧ (∀ y0 y1 y2 y3 y4 y5 y6 y7 y8, LeO (quarrylaw04_BitmapRanks.j3 k y0 y1 y2 y3 y4 y5 y6 y7 y8) (quarrylaw04_BitmapRanks.j3 (k + 1) y0 y1 y2 y3 y4 y5 y6 y7 y8)) ∧ (∀ y0 y1 y2 y3 y4 y5 y6, LeO (quarrylaw04_BitmapRanks.j4 k y0 y1 y2 y3 y4 y5 y6) (quarrylaw04_BitmapRanks.j4 (k + 1) y0 y1 y2 y3 y4 y5 y6)) ∧ (∀ y0 y1 y2 y3 y4, LeO (quarrylaw04_BitmapRanks.j5 k y0 y1 y2 y3 y4) (quarrylaw04_BitmapRanks.j5 (k + 1) y0 y1 y2 y3 y4))
  | 0 => ⟨fun _ _ _ _ _ _ r h => by simp [quarrylaw04_BitmapRanks.j0] at h, fun _ _ _ _ _ r h => by simp [quarrylaw04_BitmapRanks.j1] at h, fun _ _ _ _ _ _ _ _ _ r h => by simp [quarrylaw04_BitmapRanks.j2] at h, fun _ _ _ _ _ _ _ _ _ r h => by simp [quarrylaw04_BitmapRanks.j3] at h, fun _ _ _ _ _ _ _ r h => by simp [quarrylaw04_BitmapRanks.j4] at h, fun _ _ _ _ _ r h => by simp [quarrylaw04_BitmapRanks.j5] at h⟩
  | k + 1 => by
    obtain ⟨ih0, ih1, ih2, ih3, ih4, ih5⟩ := quarrylaw04_BitmapRanks.mono_l k
    refine ⟨?_, ?_, ?_, ?_, ?_, ?_⟩
    · intro y0 y1 y2 y3 y4 y5
      unfold quarrylaw04_BitmapRanks.j0
      repeat' first
      | (with_reducible exact ih0 _ _ _ _ _ _)
      | (with_reducible exact ih1 _ _ _ _ _)
      | (with_reducible exact ih2 _ _ _ _ _ _ _ _ _)
      | (with_reducible exact ih3 _ _ _ _ _ _ _ _ _)
      | (with_reducible exact ih4 _ _ _ _ _ _ _)
      | (with_reducible exact ih5 _ _ _ _ _)
      | (with_reducible exact bitmap_Count.mono _ _ _ _ _)
      | (with_reducible exact bitmap_Last.mono _ _ _ _)
      | (with_reducible exact bitmap_Next.mono _ _ _ _)
      | (with_reducible exact bitmap_Select.mono _ _ _ _)
      | (with_reducible exact quarrylaw04_awake.mono _)
      | (with_reducible exact LeO.refl _)
      | (with_reducible exact LeO.none _)
      | (with_reducible refine LeO.ite ?_ ?_)
      | (with_reducible refine LeO.bind ?_ (fun _ => ?_))
      | exact ih0 _ _ _ _ _ _
      | exact ih1 _ _ _ _ _
      | exact ih2 _ _ _ _ _ _ _ _ _
      | exact ih3 _ _ _ _ _ _ _ _ _
      | exact ih4 _ _ _ _ _ _ _
      | exact ih5 _ _ _ _ _
      | exact bitmap_Count.mono _ _ _ _ _
      | exact bitmap_Last.mono _ _ _ _
      | exact bitmap_Next.mono _ _ _ _
      | exact bitmap_Select.mono _ _ _ _
      | exact quarrylaw04_awake.mono _
      | exact LeO.none _
      | refine LeO.ite ?_ ?_
      | refine LeO.bind ?_ (fun _ => ?_)
    · intro y0 y1 y2 y3 y4
      unfold quarrylaw04_BitmapRanks.j1
      repeat' first
      | (with_reducible exact ih0 _ _ _ _ _ _)
      | (with_reducible exact ih1 _ _ _ _ _)
      | (with_reducible exact ih2 _ _ _ _ _ _ _ _ _)
      | (with_reducible exact ih3 _ _ _ _ _ _ _ _ _)
      | (with_reducible exact ih4 _ _ _ _ _ _ _)
      | (with_reducible exact ih5 _ _ _ _ _)
      | (with_reducible exact bitmap_Count.mono _ _ _ _ _)
      | (with_reducible exact bitmap_Last.mono _ _ _ _)
      | (with_reducible exact bitmap_Next.mono _ _ _ _)
      | (with_reducible exact bitmap_Select.mono _ _ _ _)
      | (with_reducible exact quarrylaw04_awake.mono _)
      | (with_reducible exact LeO.refl _)
      | (with_reducible exact LeO.none _)
      | (with_reducible refine LeO.ite ?_ ?_)
      | (with_reducible refine LeO.bind ?_ (fun _ => ?_))
      | exact ih0 _ _ _ _ _ _
      | exact ih1 _ _ _ _ _
      | exact ih2 _ _ _ _ _ _ _ _ _
      | exact ih3 _ _ _ _ _ _ _ _ _
      | exact ih4 _ _ _ _ _ _ _
      | exact ih5 _ _ _ _ _
      | exact bitmap_Count.mono _ _ _ _ _
      | exact bitmap_Last.mono _ _ _ _
      | exact bitmap_Next.mono _ _ _ _
      | exact bitmap_Select.mono _ _ _ _
      | exact quarrylaw04_awake.mono _
      | exact LeO.none _
      | refine LeO.ite ?_ ?_
      | refine LeO.bind ?_ (fun _ => ?_)
    · intro y0 y1 y2 y3 y4 y5 y6 y7 y8
      unfold quarrylaw04_BitmapRanks.j2
      repeat' first
      | (with_reducible exact ih0 _ _ _ _ _ _)
      | (with_reducible exact ih1 _ _ _ _ _)
      | (with_reducible exact ih2 _ _ _ _ _ _ _ _ _)
      | (with_reducible exact ih3 _ _ _ _ _ _ _ _ _)
      | (with_reducible exact ih4 _ _ _ _ _ _ _)
      | (with_reducible exact ih5 _ _ _ _ _)
      | (with_reducible exact bitmap_Count.mono _ _ _ _ _)
      | (with_reducible exact bitmap_Last.mono _ _ _ _)
      | (with_reducible exact bitmap_Next.mono _ _ _ _)
      | (with_reducible exact bitmap_Select.mono _ _ _ _)
      | (with_reducible exact quarrylaw04_awake.mono _)
      | (with_reducible exact LeO.refl _)
      | (with_reducible exact LeO.none _)
      | (with_reducible refine LeO.ite ?_ ?_)
      | (with_reducible refine LeO.bind ?_ (fun _ => ?_))
      | exact ih0 _ _ _ _ _ _
      | exact ih1 _ _ _ _ _
      | exact ih2 _ _ _ _ _ _ _ _ _
      | exact ih3 _ _ _ _ _ _ _ _ _
      | exact ih4 _ _ _ _ _ _ _
      | exact ih5 _ _ _ _ _
      | exact bitmap_Count.mono _ _ _ _ _
      | exact bitmap_Last.mono _ _ _ _
      | exact bitmap_Next.mono _ _ _ _
      | exact bitmap_Select.mono _ _ _ _
      | exact quarrylaw04_awake.mono _
      | exact LeO.none _
      | refine LeO.ite ?_ ?_
      | refine LeO.bind ?_ (fun _ => ?_)
    · intro y0 y1 y2 y3 y4 y5 y6 y7 y8
      unfold quarrylaw04_BitmapRanks.j3
      repeat' first
      | (with_reducible exact ih0 _ _ _ _ _ _)
      | (with_reducible exact ih1 _ _ _ _ _)
      | (with_reducible exact ih2 _ _ _ _ _ _ _ _ _)
      | (with_reducible exact ih3 _ _ _ _ _ _ _ _ _)
      | (with_reducible exact ih4 _ _ _ _ _ _ _)
      | (with_reducible exact ih5 _ _ _ _ _)
      | (with_reducible exact bitmap_Count.mono _ _ _ _ _)
      | (with_reducible exact bitmap_Last.mono _ _ _ _)
      | (with_reducible exact bitmap_Next.mono _ _ _ _)
      | (with_reducible exact bitmap_Select.mono _ _ _ _)
      | (with_reducible exact quarrylaw04_awake.mono _)
      | (with_reducible exact LeO.refl _)
      | (with_reducible exact LeO.none _)
      | (with_reducible refine LeO.ite ?_ ?_)
      | (with_reducible refine LeO.bind ?_ (fun _ => ?_))
      | exact ih0 _ _ _ _ _ _
      | exact ih1 _ _ _ _ _
      | exact ih2 _ _ _ _ _ _ _ _ _
      | exact ih3 _ _ _ _ _ _ _ _ _
      | exact ih4 _ _ _ _ _ _ _
      | exact ih5 _ _ _ _ _
      | exact bitmap_Count.mono _ _ _ _ _
      | exact bitmap_Last.mono _ _ _ _
      | exact bitmap_Next.mono _ _ _ _
      | exact bitmap_Select.mono _ _ _ _
      | exact quarrylaw04_awake.mono _
      | exact LeO.none _
      | refine LeO.ite ?_ ?_
      | refine LeO.bind ?_ (fun _ => ?_)
    · intro y0 y1 y2 y3 y4 y5 y6
      unfold quarrylaw04_BitmapRanks.j4
      repeat' first
      | (with_reducible exact ih0 _ _ _ _ _ _)
      | (with_reducible exact ih1 _ _ _ _ _)
      | (with_reducible exact ih2 _ _ _ _ _ _ _ _ _)
      | (with_reducible exact ih3 _ _ _ _ _ _ _ _ _)
      | (with_reducible exact ih4 _ _ _ _ _ _ _)
      | (with_reducible exact ih5 _ _ _ _ _)
      | (with_reducible exact bitmap_Count.mono _ _ _ _ _)
      | (with_reducible exact bitmap_Last.mono _ _ _ _)
      | (with_reducible exact bitmap_Next.mono _ _ _ _)
      | (with_reducible exact bitmap_Select.mono _ _ _ _)
      | (with_reducible exact quarrylaw04_awake.mono _)
      | (with_reducible exact LeO.refl _)
      | (with_reducible exact LeO.none _)
      | (with_reducible refine LeO.ite ?_ ?_)
      | (with_reducible refine LeO.bind ?_ (fun _ => ?_))
      | exact ih0 _ _ _ _ _ _
      | exact ih1 _ _ _ _ _
      | exact ih2 _ _ _ _ _ _ _ _ _
      | exact ih3 _ _ _ _ _ _ _ _ _
      | exact ih4 _ _ _ _ _ _ _
      | exact ih5 _ _ _ _ _
      | exact bitmap_Count.mono _ _ _ _ _
      | exact bitmap_Last.mono _ _ _ _
      | exact bitmap_Next.mono _ _ _ _
      | exact bitmap_Select.mono _ _ _ _
      | exact quarrylaw04_awake.mono _
      | exact LeO.none _
      | refine LeO.ite ?_ ?_
      | refine LeO.bind ?_ (fun _ => ?_)
    · intro y0 y1 y2 y3 y4
      unfold quarrylaw04_BitmapRanks.j5
      repeat' first
      | (with_reducible exact ih0 _ _ _ _ _ _)
      | (with_reducible exact ih1 _ _ _ _ _)
      | (with_reducible exact ih2 _ _ _ _ _ _ _ _ _)
      | (with_reducible exact ih3 _ _ _ _ _ _ _ _ _)
      | (with_reducible exact ih4 _ _ _ _ _ _ _)
      | (with_reducible exact ih5 _ _ _ _ _)
      | (with_reducible exact bitmap_Count.mono _ _ _ _ _)
      | (with_reducible exact bitmap_Last.mono _ _ _ _)
      | (with_reducible exact bitmap_Next.mono _ _ _ _)
      | (with_reducible exact bitmap_Select.mono _ _ _ _)
      | (with_reducible exact quarrylaw04_awake.mono _)
      | (with_reducible exact LeO.refl _)
      | (with_reducible exact LeO.none _)
      | (with_reducible refine LeO.ite ?_ ?_)
      | (with_reducible refine LeO.bind ?_ (fun _ => ?_))
      | exact ih0 _ _ _ _ _ _
      | exact ih1 _ _ _ _ _
      | exact ih2 _ _ _ _ _ _ _ _ _
      | exact ih3 _ _ _ _ _ _ _ _ _
      | exact ih4 _ _ _ _ _ _ _
      | exact ih5 _ _ _ _ _
      | exact bitmap_Count.mono _ _ _ _ _
      | exact bitmap_Last.mono _ _ _ _
      | exact bitmap_Next.mono _ _ _ _
      | exact bitmap_Select.mono _ _ _ _
      | exact quarrylaw04_awake.mono _
      | exact LeO.none _
      | refine LeO.ite ?_ ?_
      | refine LeO.bind ?_ (fun _ => ?_)
theorem quarrylaw04_BitmapRanks.mono : ∀ a0 a1 a2 a3 k, LeO (quarrylaw04_BitmapRanks.f k a0 a1 a2 a3) (quarrylaw04_BitmapRanks.f (k + 1) a0 a1 a2 a3) := by
  intro a0 a1 a2 a3 k
  obtain ⟨ih0, ih1, ih2, ih3, ih4, ih5⟩ := quarrylaw04_BitmapRanks.mono_l k
  unfold quarrylaw04_BitmapRanks.f
  repeat' first
      | (with_reducible exact ih0 _ _ _ _ _ _)
      | (with_reducible exact ih1 _ _ _ _ _)
      | (with_reducible exact ih2 _ _ _ _ _ _ _ _ _)
      | (with_reducible exact ih3 _ _ _ _ _ _ _ _ _)
      | (with_reducible exact ih4 _ _ _ _ _ _ _)
      | (with_reducible exact ih5 _ _ _ _ _)
      | (with_reducible exact bitmap_Count.mono _ _ _ _ _)
      | (with_reducible exact bitmap_Last.mono _ _ _ _)
      | (with_reducible exact bitmap_Next.mono _ _ _ _)
      | (with_reducible exact bitmap_Select.mono _ _ _ _)
      | (with_reducible exact quarrylaw04_awake.mono _)
      | (with_reducible exact LeO.refl _)
      | (with_reducible exact LeO.none _)
      | (with_reducible refine LeO.ite ?_ ?_)
      | (with_reducible refine LeO.bind ?_ (fun _ => ?_))
      | exact ih0 _ _ _ _ _ _
      | exact ih1 _ _ _ _ _
      | exact ih2 _ _ _ _ _ _ _ _ _
      | exact ih3 _ _ _ _ _ _ _ _ _
      | exact ih4 _ _ _ _ _ _ _
      | exact ih5 _ _ _ _ _
      | exact bitmap_Count.mono _ _ _ _ _
      | exact bitmap_Last.mono _ _ _ _
      | exact bitmap_Next.mono _ _ _ _
      | exact bitmap_Select.mono _ _ _ _
      | exact quarrylaw04_awake.mono _
      | exact LeO.none _
      | refine LeO.ite ?_ ?_
      | refine LeO.bind ?_ (fun _ => ?_)
def quarrylaw04_BitmapRanks.T8 : Bool × List (List Nat × List Nat) := (true, [([], []), ([], []), ([0, 1], [0, 1]), ([], []), ([], []), ([], []), ([5], [5]), ([3, 4, 6, 2], [3, 4, 6]), ([2, 7, 0, 1, 2], [2]), ([7, 8, 0, 1, 2, 3, 4, 5, 6, 7, 8], [7])])
def quarrylaw04_BitmapRanks.B8 : List Nat := [0, 0, 3, 0, 0, 0, 32, 127, 255, 511]
theorem quarrylaw04_BitmapRanks.tab8 : rtab .any (opsOf Tryd.f4 8) = quarrylaw04_BitmapRanks.T8 := by kernel_rfl
theorem quarrylaw04_BitmapRanks.bits8 : waitsOk quarrylaw04_BitmapRanks.T8.2 quarrylaw04_BitmapRanks.B8 = true := by kernel_rfl
def quarrylaw04_BitmapRanks.T9 : Bool × List (List Nat × List Nat) := (true, [([], []), ([], []), ([0, 1], [0, 1]), ([], []), ([], []), ([3, 4, 2], [3, 4]), ([2, 5, 0, 1, 2], [2]), ([5, 6, 0, 1, 2, 3, 4, 5, 6], [5])])
def quarrylaw04_BitmapRanks.B9 : List Nat := [0, 0, 3, 0, 0, 31, 63, 127]
theorem quarrylaw04_BitmapRanks.tab9 : rtab .any (opsOf Tryd.f4 9) = quarrylaw04_BitmapRanks.T9 := by kernel_rfl
theorem quarrylaw04_BitmapRanks.bits9 : waitsOk quarrylaw04_BitmapRanks.T9.2 quarrylaw04_BitmapRanks.B9 = true := by kernel_rfl
set_option maxHeartbeats 8000000 in
set_option maxRecDepth 100000 in
theorem quarrylaw04_BitmapRanks.calls (k : Nat) (a0_0 : Int) (A0_1 : Option Addr) (c0_1 : Nat) (l0_1 : List Int) (a1 : Int) (a2 : Int) (r : Bool) (w : World) (hr0_1 : Kd.C (Kd.int .u64) w A0_1 l0_1.length l0_1) (hc0_1 : l0_1.length ≤ c0_1) (h : quarrylaw04_BitmapRanks.f k a0_0 l0_1 a1 a2 = some r) (hT : TabW w := by first | exact hT | exact TabW.drewN hT _ | (refine TabW.below hT ?_; repeat (first | (with_reducible exact HB.out) | (with_reducible exact Below.refl _ _) | apply below_alloc | apply pw_below_drewN | apply below_drew1 | apply below_drew | assumption | refine below_set ?_ (Aside0.out (by assumption))))) :
    Calls Tryd.prog 4 #[.agg #[.int .i64 a0_0, .slice A0_1 l0_1.length c0_1], .int .i64 a1, .int .i64 a2] w fun e w' => e = .returned (.bool r) ∧ Below w.heap.size w w' := by
  have hu24 := Tryd.underlying24
  have HR0_1 := Aside0.mk hr0_1
  have HC0_1 := Aside0.mk hc0_1
  clear hr0_1 hc0_1
  have HB := Aside0.mk (Below.refl w.heap.size w)
  have H : ((quarrylaw04_awake.f k).bind fun t197 => (if t197 = true then ((bitmap_Formed.f a0_0 l0_1).bind fun t198 => (if t198 = true then ((bitmap_Count.f k a0_0 l0_1 0 a0_0).bind fun t203 => (if a1 < 0 then (quarrylaw04_BitmapRanks.j0 k a1 a2 t203 true a0_0 l0_1) else (quarrylaw04_BitmapRanks.j0 k a1 a2 t203 (decide (a1 > a0_0)) a0_0 l0_1))) else ((bitmap_Count.f k a0_0 l0_1 0 a1).bind fun t199 => (if t199 = 0 then ((bitmap_Select.f k a0_0 l0_1 0).bind fun t200 => (if t200 = (-1) then ((bitmap_Next.f k a0_0 l0_1 0).bind fun t201 => (if t201 = (-1) then ((bitmap_Last.f k a0_0 l0_1 a1).bind fun t202 => (some (t202 == (-1)))) else (none))) else (none))) else (none))))) else (none))) = some r := h
  clear h
  replace H := Option.bind_eq_some_iff.mp H
  obtain ⟨t197, A40, H⟩ := H
  replace H : (if t197 = true then ((bitmap_Formed.f a0_0 l0_1).bind fun t198 => (if t198 = true then ((bitmap_Count.f k a0_0 l0_1 0 a0_0).bind fun t203 => (if a1 < 0 then (quarrylaw04_BitmapRanks.j0 k a1 a2 t203 true a0_0 l0_1) else (quarrylaw04_BitmapRanks.j0 k a1 a2 t203 (decide (a1 > a0_0)) a0_0 l0_1))) else ((bitmap_Count.f k a0_0 l0_1 0 a1).bind fun t199 => (if t199 = 0 then ((bitmap_Select.f k a0_0 l0_1 0).bind fun t200 => (if t200 = (-1) then ((bitmap_Next.f k a0_0 l0_1 0).bind fun t201 => (if t201 = (-1) then ((bitmap_Last.f k a0_0 l0_1 a1).bind fun t202 => (some (t202 == (-1)))) else (none))) else (none))) else (none))))) else (none)) = some r := H
  have A4 := Aside0.mk A40
  clear A40
  by_cases c5 : t197 = true
  · subst c5
    have H1 : ((bitmap_Formed.f a0_0 l0_1).bind fun t198 => (if t198 = true then ((bitmap_Count.f k a0_0 l0_1 0 a0_0).bind fun t203 => (if a1 < 0 then (quarrylaw04_BitmapRanks.j0 k a1 a2 t203 true a0_0 l0_1) else (quarrylaw04_BitmapRanks.j0 k a1 a2 t203 (decide (a1 > a0_0)) a0_0 l0_1))) else ((bitmap_Count.f k a0_0 l0_1 0 a1).bind fun t199 => (if t199 = 0 then ((bitmap_Select.f k a0_0 l0_1 0).bind fun t200 => (if t200 = (-1) then ((bitmap_Next.f k a0_0 l0_1 0).bind fun t201 => (if t201 = (-1) then ((bitmap_Last.f k a0_0 l0_1 a1).bind fun t202 => (some (t202 == (-1)))) else (none))) else (none))) else (none))))) = some r := by rw [if_pos rfl] at H; exact H
    clear H
    have H := H1
    clear H1
    replace H := Option.bind_eq_some_iff.mp H
    obtain ⟨t198, A60, H⟩ := H
    replace H : (if t198 = true then ((bitmap_Count.f k a0_0 l0_1 0 a0_0).bind fun t203 => (if a1 < 0 then (quarrylaw04_BitmapRanks.j0 k a1 a2 t203 true a0_0 l0_1) else (quarrylaw04_BitmapRanks.j0 k a1 a2 t203 (decide (a1 > a0_0)) a0_0 l0_1))) else ((bitmap_Count.f k a0_0 l0_1 0 a1).bind fun t199 => (if t199 = 0 then ((bitmap_Select.f k a0_0 l0_1 0).bind fun t200 => (if t200 = (-1) then ((bitmap_Next.f k a0_0 l0_1 0).bind fun t201 => (if t201 = (-1) then ((bitmap_Last.f k a0_0 l0_1 a1).bind fun t202 => (some (t202 == (-1)))) else (none))) else (none))) else (none)))) = some r := H
    have A6 := Aside0.mk A60
    clear A60
    by_cases c7 : t198 = true
    · subst c7
      have H1 : ((bitmap_Count.f k a0_0 l0_1 0 a0_0).bind fun t203 => (if a1 < 0 then (quarrylaw04_BitmapRanks.j0 k a1 a2 t203 true a0_0 l0_1) else (quarrylaw04_BitmapRanks.j0 k a1 a2 t203 (decide (a1 > a0_0)) a0_0 l0_1))) = some r := by rw [if_pos rfl] at H; exact H
      clear H
      have H := H1
      clear H1
      replace H := Option.bind_eq_some_iff.mp H
      obtain ⟨t203, A80, H⟩ := H
      replace H : (if a1 < 0 then (quarrylaw04_BitmapRanks.j0 k a1 a2 t203 true a0_0 l0_1) else (quarrylaw04_BitmapRanks.j0 k a1 a2 t203 (decide (a1 > a0_0)) a0_0 l0_1)) = some r := H
      have A8 := Aside0.mk A80
      clear A80
      have HC9 := Aside0.mk H
      clear H
      go_enter Tryd.func4, Tryd.ntmps4
      go_upto_region 6 with (first | ((with_reducible refine gate_dst (N := 3) rfl ?_); refine box_event ?hg (N := 3) ?hd (cs := #[.int .i64 a0_0, .slice A0_1 l0_1.length c0_1]) (t := 24) ?hr ?_; (case hd => rfl); (case hg => rfl); (case hr => first | (go_simp; done) | (go_simp; rfl)); intro gb196 hg w10 hbox hb; have n0_ := Aside0.mk (below_step (by repeat (first | (with_reducible first | exact HB.out | apply below_alloc | apply pw_below_drewN | apply below_drew1) | exact HB.out)) hb); have n1_ := Aside0.mk (hbox); have n2_ := Aside0.mk ((by rw [hg]; exact (below_size (by repeat (first | (with_reducible first | exact HB.out | apply below_alloc | apply pw_below_drewN | apply below_drew1) | exact HB.out))) : w.heap.size ≤ gb196)); have n3_ := Aside0.mk ((by rw [hg]; exact (below_size (by repeat (first | (with_reducible first | exact HB.out | apply below_alloc | apply pw_below_drewN | apply below_drew1) | exact HB.out))) : w.heap.size ≤ gb196)); clear HB; have HB := n0_; have BK196 := n1_; have GW196 := n2_; have GE196 := n3_; clear n0_ n1_ n2_ n3_; clear hb hbox hg) | ((with_reducible refine gate_callee (f := 22) rfl ?_); refine goesL_ (some 13) rfl rfl Tryd.func22 (by kernel_rfl) rfl #[] rfl (by (try simp only [List.map_toArray, List.map_cons, List.map_nil]); first | done | rfl | (simp only [List.length_drop, List.length_take]; rfl)) ?_; (with_reducible refine (quarrylaw04_awake.calls k  true _ A4.out).mono ?_); rintro e w11 ⟨rfl, hb⟩; refine ⟨_, rfl, ?_⟩; have n0_ := Aside0.mk (blk_below (g := gb196) (o := .cells #[.int .i64 a0_0, .slice A0_1 l0_1.length c0_1] 24 (0, 0)) (by (with_reducible repeat (first | refine blk_drewN ?_ _ | refine blk_drew ?_ | refine blk_alloc ?_ _)); exact BK196.out) hb); have n1_ := Aside0.mk (below_step (by repeat (first | (with_reducible first | exact HB.out | apply below_alloc | apply pw_below_drewN | apply below_drew1 | refine below_set ?_ GE196.out) | exact HB.out)) hb); clear BK196; clear HB; have BK196 := n0_; have HB := n1_; clear n0_ n1_; (try clear hb); (try clear hb2); (try clear hk); (try clear hi); have hcz12_0 : w11.cell? ⟨gb196, 0, none⟩ = some (.int .i64 a0_0) := (blk_cell BK196.out 0).trans rfl; have hcz12_1 : w11.cell? ⟨gb196, 1, none⟩ = some (.slice A0_1 l0_1.length c0_1) := (blk_cell BK196.out 1).trans rfl; have hfz12_0 := blk_frozen BK196.out 0; have hfz12_1 := blk_frozen BK196.out 1) | ((with_reducible refine gate_callee (f := 23) rfl ?_); refine goesL_ (some 16) rfl rfl Tryd.func23 (by kernel_rfl) rfl #[.agg #[.int .i64 a0_0, .slice A0_1 l0_1.length c0_1]] rfl (by (try simp only [List.map_toArray, List.map_cons, List.map_nil]); first | done | rfl | (simp only [List.length_drop, List.length_take]; rfl)) ?_; (with_reducible refine (bitmap_Formed.calls a0_0 _ _ l0_1 true _ ?side1 ?side2 A6.out).mono ?_); (case side1 => repeat (first | exact (Kd.C_below HR0_1.out HB.out) | (with_reducible refine Kd.C_alloc ?_ _) | (with_reducible refine Kd.C_drewN ?_ _) | (with_reducible refine Kd.C_drew ?_))); (case side2 => exact HC0_1.out); rintro e w13 ⟨rfl, hb⟩; refine ⟨_, rfl, ?_⟩; have n0_ := Aside0.mk (blk_below (g := gb196) (o := .cells #[.int .i64 a0_0, .slice A0_1 l0_1.length c0_1] 24 (0, 0)) (by (with_reducible repeat (first | refine blk_drewN ?_ _ | refine blk_drew ?_ | refine blk_alloc ?_ _)); exact BK196.out) hb); have n1_ := Aside0.mk (below_step (by repeat (first | (with_reducible first | exact HB.out | apply below_alloc | apply pw_below_drewN | apply below_drew1 | refine below_set ?_ GE196.out) | exact HB.out)) hb); clear BK196; clear HB; have BK196 := n0_; have HB := n1_; clear n0_ n1_; (try clear hb); (try clear hb2); (try clear hk); (try clear hi); have hcz14_0 : w13.cell? ⟨gb196, 0, none⟩ = some (.int .i64 a0_0) := (blk_cell BK196.out 0).trans rfl; have hcz14_1 : w13.cell? ⟨gb196, 1, none⟩ = some (.slice A0_1 l0_1.length c0_1) := (blk_cell BK196.out 1).trans rfl; have hfz14_0 := blk_frozen BK196.out 0; have hfz14_1 := blk_frozen BK196.out 1) | ((with_reducible refine gate_callee (f := 13) rfl ?_); refine goesL_ (some 41) rfl rfl Tryd.func13 (by kernel_rfl) rfl #[.agg #[.int .i64 a0_0, .slice A0_1 l0_1.length c0_1], .int .i64 0, .int .i64 a0_0] rfl (by (try simp only [List.map_toArray, List.map_cons, List.map_nil]); first | done | rfl | (simp only [List.length_drop, List.length_take]; rfl)) ?_; (with_reducible refine (bitmap_Count.calls k a0_0 _ _ l0_1 0 a0_0 t203 _ ?side1 ?side2 A8.out).mono ?_); (case side1 => repeat (first | exact (Kd.C_below HR0_1.out HB.out) | (with_reducible refine Kd.C_alloc ?_ _) | (with_reducible refine Kd.C_drewN ?_ _) | (with_reducible refine Kd.C_drew ?_))); (case side2 => exact HC0_1.out); rintro e w15 ⟨rfl, hb⟩; refine ⟨_, rfl, ?_⟩; have n0_ := Aside0.mk (blk_below (g := gb196) (o := .cells #[.int .i64 a0_0, .slice A0_1 l0_1.length c0_1] 24 (0, 0)) (by (with_reducible repeat (first | refine blk_drewN ?_ _ | refine blk_drew ?_ | refine blk_alloc ?_ _)); exact BK196.out) hb); have n1_ := Aside0.mk (below_step (by repeat (first | (with_reducible first | exact HB.out | apply below_alloc | apply pw_below_drewN | apply below_drew1 | refine below_set ?_ GE196.out) | exact HB.out)) hb); clear BK196; clear HB; have BK196 := n0_; have HB := n1_; clear n0_ n1_; (try clear hb); (try clear hb2); (try clear hk); (try clear hi)))
      (try simp only [Act.put, List.setIfInBounds_toArray, List.set_cons_zero, List.set_cons_succ])
      go_cut [49] (fun v49 wc => ∃ (kq : Nat) (x49_8 : Bool), v49 = .bool x49_8 ∧ Aside0 (quarrylaw04_BitmapRanks.j0 kq a1 a2 t203 x49_8 a0_0 l0_1 = some r) ∧ Aside0 (kq ≤ k) ∧ Aside0 (wc.heap[gb196]? = some (.cells #[.int .i64 a0_0, (.slice A0_1 l0_1.length c0_1)] 24 (0, 0))) ∧ Aside0 (Below w.heap.size w wc))
      case first =>
        have H := HC9.out
        clear HC9
        by_cases c16 : a1 < 0
        · rw [if_pos c16] at H
          have c16b0 : decide (a1 < 0) = true := decide_eq_true c16
          clear c16
          (first | rw [c16b0] | (simp only [i64_w, i32_w]; rw [c16b0]) | skip)
          have H' := Aside0.mk H
          clear H
          go_wp2
          go_meet
          case rel => exact ⟨_, (true), (by first | rfl | (simp; done) | (simp [*]; done)), H', ⟨by first | omega | exact Nat.le_refl _⟩, ⟨by (with_reducible repeat (first | refine blk_drewN ?_ _ | refine blk_drew ?_ | refine blk_alloc ?_ _)); exact BK196.out⟩, ⟨by repeat (first | (with_reducible first | exact HB.out | apply below_alloc | apply pw_below_drewN | apply below_drew1 | refine below_set ?_ GE196.out) | exact HB.out)⟩⟩
        · rw [if_neg c16] at H
          have c16b0 : decide (a1 < 0) = false := decide_eq_false c16
          clear c16
          (first | rw [c16b0] | (simp only [i64_w, i32_w]; rw [c16b0]) | skip)
          have H' := Aside0.mk H
          clear H
          have hcz17_0 : w15.cell? ⟨gb196, 0, none⟩ = some (.int .i64 a0_0) := (blk_cell BK196.out 0).trans rfl
          have hcz17_1 : w15.cell? ⟨gb196, 1, none⟩ = some (.slice A0_1 l0_1.length c0_1) := (blk_cell BK196.out 1).trans rfl
          have hfz17_0 := blk_frozen BK196.out 0
          have hfz17_1 := blk_frozen BK196.out 1
          go_wp2
          go_meet
          case rel => exact ⟨_, (decide (a1 > a0_0)), (by first | rfl | (simp; done) | (simp [*]; done)), H', ⟨by first | omega | exact Nat.le_refl _⟩, ⟨by (with_reducible repeat (first | refine blk_drewN ?_ _ | refine blk_drew ?_ | refine blk_alloc ?_ _)); exact BK196.out⟩, ⟨by repeat (first | (with_reducible first | exact HB.out | apply below_alloc | apply pw_below_drewN | apply below_drew1 | refine below_set ?_ GE196.out) | exact HB.out)⟩⟩
      case rest => as_aux_lemma =>
        clear HC9
        try clear c1
        try clear c2
        try clear p2
        try clear c4
        try clear c5
        try clear c7
        try clear c13
        try clear c16
        try clear c16b0
        try clear hcz12_0
        try clear hcz12_1
        try clear hcz14_0
        try clear hcz14_1
        try clear hcz17_0
        try clear hcz17_1
        try clear hfz12_0
        try clear hfz12_1
        try clear hfz14_0
        try clear hfz14_1
        try clear hfz17_0
        try clear hfz17_1
        obtain ⟨kq, x49_8, rfl, HA, HJ8, BK196, HB⟩ := hcut
        cases kq with
        | zero => exact absurd HA.out (by simp [quarrylaw04_BitmapRanks.j0])
        | succ kj8 =>
          have H := HA.out
          clear HA
          simp only [quarrylaw04_BitmapRanks.j0] at H
          have HC18 := Aside0.mk H
          clear H
          go_upto_if 49 with (fail)
          go_cut [1] (fun v1 wc => ∃ (kq : Nat) (x1_17 : Int), v1 = .int .i64 x1_17 ∧ Aside0 (quarrylaw04_BitmapRanks.j1 kq x1_17 a2 t203 a0_0 l0_1 = some r) ∧ Aside0 (kq ≤ kj8) ∧ Aside0 (wc.heap[gb196]? = some (.cells #[.int .i64 a0_0, (.slice A0_1 l0_1.length c0_1)] 24 (0, 0))) ∧ Aside0 (Below w.heap.size w wc))
          case first =>
            have H := HC18.out
            clear HC18
            by_cases c19 : x49_8 = true
            · subst c19
              have H1 : ((quarrykit_Pick.f a1 (wrap64 (a0_0 + 1))).bind fun t204 => (quarrylaw04_BitmapRanks.j1 kj8 t204 a2 t203 a0_0 l0_1)) = some r := by rw [if_pos rfl] at H; exact H
              clear H
              have H := H1
              clear H1
              replace H := Option.bind_eq_some_iff.mp H
              obtain ⟨t204, A200, H⟩ := H
              replace H : (quarrylaw04_BitmapRanks.j1 kj8 t204 a2 t203 a0_0 l0_1) = some r := H
              have A20 := Aside0.mk A200
              clear A200
              have H' := Aside0.mk H
              clear H
              have hcz21_0 : wc.cell? ⟨gb196, 0, none⟩ = some (.int .i64 a0_0) := (blk_cell BK196.out 0).trans rfl
              have hcz21_1 : wc.cell? ⟨gb196, 1, none⟩ = some (.slice A0_1 l0_1.length c0_1) := (blk_cell BK196.out 1).trans rfl
              have hfz21_0 := blk_frozen BK196.out 0
              have hfz21_1 := blk_frozen BK196.out 1
              go_wp2_with (first | ((with_reducible refine gate_callee (f := 24) rfl ?_); refine goesL_ (some 54) rfl rfl Tryd.func24 (by kernel_rfl) rfl #[.int .i64 a1, .int .i64 (wrap64 (a0_0 + 1))] rfl (by (try simp only [List.map_toArray, List.map_cons, List.map_nil]); first | done | rfl | (simp only [List.length_drop, List.length_take]; rfl)) ?_; (with_reducible refine (quarrykit_Pick.calls a1 (wrap64 (a0_0 + 1)) t204 _ A20.out).mono ?_); rintro e w' ⟨rfl, ⟨nd, rfl⟩⟩; refine ⟨_, rfl, ?_⟩))
              go_meet
              case rel => exact ⟨_, (t204), (by first | rfl | (simp; done) | (simp [*]; done)), H', ⟨by have := HJ8.out; first | omega | exact Nat.le_refl _⟩, ⟨by (with_reducible repeat (first | refine blk_drewN ?_ _ | refine blk_drew ?_ | refine blk_alloc ?_ _)); exact BK196.out⟩, ⟨by repeat (first | (with_reducible first | exact HB.out | apply below_alloc | apply pw_below_drewN | apply below_drew1 | refine below_set ?_ GE196.out) | exact HB.out)⟩⟩
            · replace c19 := Bool.eq_false_iff.mpr c19
              subst c19
              have H1 : (quarrylaw04_BitmapRanks.j1 kj8 a1 a2 t203 a0_0 l0_1) = some r := by rw [if_neg (show ¬ (false = true) by decide)] at H; exact H
              clear H
              have H := H1
              clear H1
              have H' := Aside0.mk H
              clear H
              go_wp2
              go_meet
              case rel => exact ⟨_, (a1), (by first | rfl | (simp; done) | (simp [*]; done)), H', ⟨by have := HJ8.out; first | omega | exact Nat.le_refl _⟩, ⟨by (with_reducible repeat (first | refine blk_drewN ?_ _ | refine blk_drew ?_ | refine blk_alloc ?_ _)); exact BK196.out⟩, ⟨by repeat (first | (with_reducible first | exact HB.out | apply below_alloc | apply pw_below_drewN | apply below_drew1 | refine below_set ?_ GE196.out) | exact HB.out)⟩⟩
          case rest => as_aux_lemma =>
            clear HC18
            try clear c1
            try clear c2
            try clear p2
            try clear c4
            try clear c5
            try clear p6
            try clear c7
            try clear c13
            try clear c16
            try clear c16b0
            try clear c19
            try clear hcz12_0
            try clear hcz12_1
            try clear hcz14_0
            try clear hcz14_1
            try clear hcz17_0
            try clear hcz17_1
            try clear hcz21_0
            try clear hcz21_1
            try clear hfz12_0
            try clear hfz12_1
            try clear hfz14_0
            try clear hfz14_1
            try clear hfz17_0
            try clear hfz17_1
            try clear hfz21_0
            try clear hfz21_1
            try clear p2
            obtain ⟨kq, x1_17, rfl, HA, HJ17, BK196, HB⟩ := hcut
            cases kq with
            | zero => exact absurd HA.out (by simp [quarrylaw04_BitmapRanks.j1])
            | succ kj17 =>
              have H := HA.out
              clear HA
              simp only [quarrylaw04_BitmapRanks.j1] at H
              replace H := Option.bind_eq_some_iff.mp H
              obtain ⟨t205, A220, H⟩ := H
              replace H : ((bitmap_Count.f kj17 a0_0 l0_1 x1_17 a0_0).bind fun t206 => ((bitmap_Next.f kj17 a0_0 l0_1 x1_17).bind fun t207 => ((bitmap_Last.f kj17 a0_0 l0_1 x1_17).bind fun t208 => (if (wrap64 (t205 + t206)) = t203 then (if t205 < 0 then (quarrylaw04_BitmapRanks.j2 kj17 x1_17 a2 t203 t205 t207 t208 true a0_0 l0_1) else (if t206 < 0 then (quarrylaw04_BitmapRanks.j2 kj17 x1_17 a2 t203 t205 t207 t208 true a0_0 l0_1) else ((bitmap_Select.f kj17 a0_0 l0_1 t205).bind fun t209 => (if t207 = t209 then ((bitmap_Select.f kj17 a0_0 l0_1 (wrap64 (t205 - 1))).bind fun t210 => (if t208 = t210 then (if ((decide (t207 < 0)) != (t206 == 0)) = true then (quarrylaw04_BitmapRanks.j2 kj17 x1_17 a2 t203 t205 t207 t208 true a0_0 l0_1) else (quarrylaw04_BitmapRanks.j2 kj17 x1_17 a2 t203 t205 t207 t208 ((decide (t208 < 0)) != (t205 == 0)) a0_0 l0_1)) else (quarrylaw04_BitmapRanks.j2 kj17 x1_17 a2 t203 t205 t207 t208 true a0_0 l0_1))) else (quarrylaw04_BitmapRanks.j2 kj17 x1_17 a2 t203 t205 t207 t208 true a0_0 l0_1))))) else (quarrylaw04_BitmapRanks.j2 kj17 x1_17 a2 t203 t205 t207 t208 true a0_0 l0_1))))) = some r := H
              have A22 := Aside0.mk A220
              clear A220
              replace H := Option.bind_eq_some_iff.mp H
              obtain ⟨t206, A230, H⟩ := H
              replace H : ((bitmap_Next.f kj17 a0_0 l0_1 x1_17).bind fun t207 => ((bitmap_Last.f kj17 a0_0 l0_1 x1_17).bind fun t208 => (if (wrap64 (t205 + t206)) = t203 then (if t205 < 0 then (quarrylaw04_BitmapRanks.j2 kj17 x1_17 a2 t203 t205 t207 t208 true a0_0 l0_1) else (if t206 < 0 then (quarrylaw04_BitmapRanks.j2 kj17 x1_17 a2 t203 t205 t207 t208 true a0_0 l0_1) else ((bitmap_Select.f kj17 a0_0 l0_1 t205).bind fun t209 => (if t207 = t209 then ((bitmap_Select.f kj17 a0_0 l0_1 (wrap64 (t205 - 1))).bind fun t210 => (if t208 = t210 then (if ((decide (t207 < 0)) != (t206 == 0)) = true then (quarrylaw04_BitmapRanks.j2 kj17 x1_17 a2 t203 t205 t207 t208 true a0_0 l0_1) else (quarrylaw04_BitmapRanks.j2 kj17 x1_17 a2 t203 t205 t207 t208 ((decide (t208 < 0)) != (t205 == 0)) a0_0 l0_1)) else (quarrylaw04_BitmapRanks.j2 kj17 x1_17 a2 t203 t205 t207 t208 true a0_0 l0_1))) else (quarrylaw04_BitmapRanks.j2 kj17 x1_17 a2 t203 t205 t207 t208 true a0_0 l0_1))))) else (quarrylaw04_BitmapRanks.j2 kj17 x1_17 a2 t203 t205 t207 t208 true a0_0 l0_1)))) = some r := H
              have A23 := Aside0.mk A230
              clear A230
              replace H := Option.bind_eq_some_iff.mp H
              obtain ⟨t207, A240, H⟩ := H
              replace H : ((bitmap_Last.f kj17 a0_0 l0_1 x1_17).bind fun t208 => (if (wrap64 (t205 + t206)) = t203 then (if t205 < 0 then (quarrylaw04_BitmapRanks.j2 kj17 x1_17 a2 t203 t205 t207 t208 true a0_0 l0_1) else (if t206 < 0 then (quarrylaw04_BitmapRanks.j2 kj17 x1_17 a2 t203 t205 t207 t208 true a0_0 l0_1) else ((bitmap_Select.f kj17 a0_0 l0_1 t205).bind fun t209 => (if t207 = t209 then ((bitmap_Select.f kj17 a0_0 l0_1 (wrap64 (t205 - 1))).bind fun t210 => (if t208 = t210 then (if ((decide (t207 < 0)) != (t206 == 0)) = true then (quarrylaw04_BitmapRanks.j2 kj17 x1_17 a2 t203 t205 t207 t208 true a0_0 l0_1) else (quarrylaw04_BitmapRanks.j2 kj17 x1_17 a2 t203 t205 t207 t208 ((decide (t208 < 0)) != (t205 == 0)) a0_0 l0_1)) else (quarrylaw04_BitmapRanks.j2 kj17 x1_17 a2 t203 t205 t207 t208 true a0_0 l0_1))) else (quarrylaw04_BitmapRanks.j2 kj17 x1_17 a2 t203 t205 t207 t208 true a0_0 l0_1))))) else (quarrylaw04_BitmapRanks.j2 kj17 x1_17 a2 t203 t205 t207 t208 true a0_0 l0_1))) = some r := H
              have A24 := Aside0.mk A240
              clear A240
              replace H := Option.bind_eq_some_iff.mp H
              obtain ⟨t208, A250, H⟩ := H
              replace H : (if (wrap64 (t205 + t206)) = t203 then (if t205 < 0 then (quarrylaw04_BitmapRanks.j2 kj17 x1_17 a2 t203 t205 t207 t208 true a0_0 l0_1) else (if t206 < 0 then (quarrylaw04_BitmapRanks.j2 kj17 x1_17 a2 t203 t205 t207 t208 true a0_0 l0_1) else ((bitmap_Select.f kj17 a0_0 l0_1 t205).bind fun t209 => (if t207 = t209 then ((bitmap_Select.f kj17 a0_0 l0_1 (wrap64 (t205 - 1))).bind fun t210 => (if t208 = t210 then (if ((decide (t207 < 0)) != (t206 == 0)) = true then (quarrylaw04_BitmapRanks.j2 kj17 x1_17 a2 t203 t205 t207 t208 true a0_0 l0_1) else (quarrylaw04_BitmapRanks.j2 kj17 x1_17 a2 t203 t205 t207 t208 ((decide (t208 < 0)) != (t205 == 0)) a0_0 l0_1)) else (quarrylaw04_BitmapRanks.j2 kj17 x1_17 a2 t203 t205 t207 t208 true a0_0 l0_1))) else (quarrylaw04_BitmapRanks.j2 kj17 x1_17 a2 t203 t205 t207 t208 true a0_0 l0_1))))) else (quarrylaw04_BitmapRanks.j2 kj17 x1_17 a2 t203 t205 t207 t208 true a0_0 l0_1)) = some r := H
              have A25 := Aside0.mk A250
              clear A250
              have HC26 := Aside0.mk H
              clear H
              try go_wp2
              have n0_ := Aside0.mk (blk_drew BK196.out)
              have n1_ := Aside0.mk (below_drew1 HB.out)
              clear BK196
              clear HB
              have BK196 := n0_
              have HB := n1_
              clear n0_ n1_
              refine start_ (n := 10) (S := fun w' => w'.cell? ⟨gb196, 0, none⟩ = some (.int .i64 a0_0) ∧ w'.cell? ⟨gb196, 1, none⟩ = some (.slice A0_1 l0_1.length c0_1)) (ds := []) #[false, false, false, false, false, false, false, false, false, false] (by kernel_rfl) rfl rfl ⟨(blk_cell BK196.out 0).trans rfl, (blk_cell BK196.out 1).trans rfl⟩ (fun hHeld => ?_); refine with_tabW quarrylaw04_BitmapRanks.tab8 quarrylaw04_BitmapRanks.bits8 (fun HT_ HW_ => ?_)
              generalize wc.drew = w27 at BK196 HB hHeld ⊢
              refine pure_ (i := 1) (N := some 56) (v := ?_) (a' := ?_) #[false, true, false, false, false, false, false, false, false, false] rfl rfl (any_of HT_.out (by kernel_rfl)) (fun _ _ _ h => h) (Or.inl ⟨by rfl, ?_⟩) ?_ ?_
              rotate_left
              · intro w'
                go_simp
                with_reducible rfl
              rotate_left
              · simp only [Act.put, List.setIfInBounds_toArray, List.set_cons_zero, List.set_cons_succ, i64_w, i32_w]
                rfl
              refine pure_ (i := 4) (N := some 59) (v := ?_) (a' := ?_) #[false, true, false, false, true, false, false, false, false, false] rfl rfl (any_of HT_.out (by kernel_rfl)) (fun _ _ _ h => h) (Or.inl ⟨by rfl, ?_⟩) ?_ ?_
              rotate_left
              · intro w'
                go_simp
                with_reducible rfl
              rotate_left
              · simp only [Act.put, List.setIfInBounds_toArray, List.set_cons_zero, List.set_cons_succ, i64_w, i32_w]
                rfl
              refine pure_ (i := 5) (N := some 60) (v := ?_) (a' := ?_) #[false, true, false, false, true, true, false, false, false, false] rfl rfl (any_of HT_.out (by kernel_rfl)) (fun _ _ _ h => h) (Or.inl ⟨by rfl, ?_⟩) ?_ ?_
              rotate_left
              · intro w'
                go_simp
                with_reducible rfl
              rotate_left
              · simp only [Act.put, List.setIfInBounds_toArray, List.set_cons_zero, List.set_cons_succ, i64_w, i32_w]
                rfl
              refine take_ (i := 0) (N := some 55) (v := ?_) (a' := ?_) #[true, true, false, false, true, true, false, false, false, false] rfl rfl (take_ofW HT_.out HW_.out (by kernel_rfl)) (fun _ _ _ h => h) (Or.inl ⟨by rfl, ?_⟩) hHeld ?_ ?_
              rotate_left
              · rintro w' ⟨s0, s1⟩
                go_simp
                with_reducible rfl
              rotate_left
              · simp only [Act.put, List.setIfInBounds_toArray, List.set_cons_zero, List.set_cons_succ, i64_w, i32_w]
                rfl
              refine take_ (i := 3) (N := some 58) (v := ?_) (a' := ?_) #[true, true, false, true, true, true, false, false, false, false] rfl rfl (take_ofW HT_.out HW_.out (by kernel_rfl)) (fun _ _ _ h => h) (Or.inl ⟨by rfl, ?_⟩) hHeld ?_ ?_
              rotate_left
              · rintro w' ⟨s0, s1⟩
                go_simp
                with_reducible rfl
              rotate_left
              · simp only [Act.put, List.setIfInBounds_toArray, List.set_cons_zero, List.set_cons_succ, i64_w, i32_w]
                rfl
              refine take_ (i := 6) (N := some 61) (v := ?_) (a' := ?_) #[true, true, false, true, true, true, true, false, false, false] rfl rfl (take_ofW HT_.out HW_.out (by kernel_rfl)) (fun _ _ _ h => h) (Or.inl ⟨by rfl, ?_⟩) hHeld ?_ ?_
              rotate_left
              · rintro w' ⟨s0, s1⟩
                go_simp
                with_reducible rfl
              rotate_left
              · simp only [Act.put, List.setIfInBounds_toArray, List.set_cons_zero, List.set_cons_succ, i64_w, i32_w]
                rfl
              refine one_ (i := 2) (N := some 57) #[true, true, true, true, true, true, true, false, false, false] rfl rfl (one_of HT_.out (by kernel_rfl)) (by decide) (fun K hK => ?_)
              refine goes_ Tryd.func13 (by kernel_rfl) rfl #[.agg #[.int .i64 a0_0, .slice A0_1 l0_1.length c0_1], .int .i64 0, .int .i64 x1_17] (by rfl) rfl rfl (by (try simp only [List.map_toArray, List.map_cons, List.map_nil]); first | done | rfl | (simp only [List.length_drop, List.length_take]; rfl)) ?_
              with_reducible refine (bitmap_Count.calls kj17 a0_0 _ _ l0_1 0 x1_17 t205 _ ?side1 ?side2 A22.out).mono ?_
              (case side1 => repeat (first | exact (Kd.C_below HR0_1.out HB.out) | (with_reducible refine Kd.C_alloc ?_ _) | (with_reducible refine Kd.C_drewN ?_ _) | (with_reducible refine Kd.C_drew ?_)))
              (case side2 => exact HC0_1.out)
              rintro e w28 ⟨rfl, hb⟩
              refine ⟨_, rfl, ?_⟩
              have n0_ := Aside0.mk (blk_below (g := gb196) (o := .cells #[.int .i64 a0_0, .slice A0_1 l0_1.length c0_1] 24 (0, 0)) (by (with_reducible repeat (first | refine blk_drewN ?_ _ | refine blk_drew ?_ | refine blk_alloc ?_ _)); exact BK196.out) hb)
              have n1_ := Aside0.mk (below_step (by repeat (first | (with_reducible first | exact HB.out | apply below_alloc | apply pw_below_drewN | apply below_drew1 | refine below_set ?_ GE196.out) | exact HB.out)) hb)
              clear BK196
              clear HB
              have BK196 := n0_
              have HB := n1_
              clear n0_ n1_
              (try clear hb)
              (try clear hb2)
              (try clear hk)
              (try clear hi)
              refine hK.out _ _ ⟨(blk_cell BK196.out 0).trans rfl, (blk_cell BK196.out 1).trans rfl⟩ (fun hHeld => ?_)
              clear hK K
              refine norm_ (a' := ?_) ?_ ?_
              rotate_left
              · show Act.put _ (some 57) _ = _
                simp only [Act.put, List.setIfInBounds_toArray, List.set_cons_zero, List.set_cons_succ, i64_w, i32_w]
                rfl
              refine one_ (i := 7) (N := some 62) #[true, true, true, true, true, true, true, true, false, false] rfl rfl (one_of HT_.out (by kernel_rfl)) (by decide) (fun K hK => ?_)
              refine goes_ Tryd.func13 (by kernel_rfl) rfl #[.agg #[.int .i64 a0_0, .slice A0_1 l0_1.length c0_1], .int .i64 x1_17, .int .i64 a0_0] (by rfl) rfl rfl (by (try simp only [List.map_toArray, List.map_cons, List.map_nil]); first | done | rfl | (simp only [List.length_drop, List.length_take]; rfl)) ?_
              with_reducible refine (bitmap_Count.calls kj17 a0_0 _ _ l0_1 x1_17 a0_0 t206 _ ?side1 ?side2 A23.out).mono ?_
              (case side1 => repeat (first | exact (Kd.C_below HR0_1.out HB.out) | (with_reducible refine Kd.C_alloc ?_ _) | (with_reducible refine Kd.C_drewN ?_ _) | (with_reducible refine Kd.C_drew ?_)))
              (case side2 => exact HC0_1.out)
              rintro e w29 ⟨rfl, hb⟩
              refine ⟨_, rfl, ?_⟩
              have n0_ := Aside0.mk (blk_below (g := gb196) (o := .cells #[.int .i64 a0_0, .slice A0_1 l0_1.length c0_1] 24 (0, 0)) (by (with_reducible repeat (first | refine blk_drewN ?_ _ | refine blk_drew ?_ | refine blk_alloc ?_ _)); exact BK196.out) hb)
              have n1_ := Aside0.mk (below_step (by repeat (first | (with_reducible first | exact HB.out | apply below_alloc | apply pw_below_drewN | apply below_drew1 | refine below_set ?_ GE196.out) | exact HB.out)) hb)
              clear BK196
              clear HB
              have BK196 := n0_
              have HB := n1_
              clear n0_ n1_
              (try clear hb)
              (try clear hb2)
              (try clear hk)
              (try clear hi)
              refine hK.out _ _ ⟨(blk_cell BK196.out 0).trans rfl, (blk_cell BK196.out 1).trans rfl⟩ (fun hHeld => ?_)
              clear hK K
              refine norm_ (a' := ?_) ?_ ?_
              rotate_left
              · show Act.put _ (some 62) _ = _
                simp only [Act.put, List.setIfInBounds_toArray, List.set_cons_zero, List.set_cons_succ, i64_w, i32_w]
                rfl
              refine pure_ (i := 8) (N := some 8) (v := ?_) (a' := ?_) #[true, true, true, true, true, true, true, true, true, false] rfl rfl (any_of HT_.out (by kernel_rfl)) (fun _ _ _ h => h) (Or.inl ⟨by rfl, ?_⟩) ?_ ?_
              rotate_left
              · intro w'
                go_simp
                with_reducible rfl
              rotate_left
              · simp only [Act.put, List.setIfInBounds_toArray, List.set_cons_zero, List.set_cons_succ, i64_w, i32_w]
                rfl
              refine pure_ (i := 9) (N := some 9) (v := ?_) (a' := ?_) #[true, true, true, true, true, true, true, true, true, true] rfl rfl (any_of HT_.out (by kernel_rfl)) (fun _ _ _ h => h) (Or.inl ⟨by rfl, ?_⟩) ?_ ?_
              rotate_left
              · intro w'
                go_simp
                with_reducible rfl
              rotate_left
              · simp only [Act.put, List.setIfInBounds_toArray, List.set_cons_zero, List.set_cons_succ, i64_w, i32_w]
                rfl
              refine done_ (done_of HT_.out (by kernel_rfl)) ?_
              try go_wp2
              have n0_ := Aside0.mk (blk_drew BK196.out)
              have n1_ := Aside0.mk (below_drew1 HB.out)
              clear BK196
              clear HB
              have BK196 := n0_
              have HB := n1_
              clear n0_ n1_
              refine start_ (n := 8) (S := fun w' => w'.cell? ⟨gb196, 0, none⟩ = some (.int .i64 a0_0) ∧ w'.cell? ⟨gb196, 1, none⟩ = some (.slice A0_1 l0_1.length c0_1)) (ds := []) #[false, false, false, false, false, false, false, false] (by kernel_rfl) rfl rfl ⟨(blk_cell BK196.out 0).trans rfl, (blk_cell BK196.out 1).trans rfl⟩ (fun hHeld => ?_); refine with_tabW quarrylaw04_BitmapRanks.tab9 quarrylaw04_BitmapRanks.bits9 (fun HT_ HW_ => ?_)
              generalize w29.drew = w30 at BK196 HB hHeld ⊢
              refine pure_ (i := 1) (N := some 64) (v := ?_) (a' := ?_) #[false, true, false, false, false, false, false, false] rfl rfl (any_of HT_.out (by kernel_rfl)) (fun _ _ _ h => h) (Or.inl ⟨by rfl, ?_⟩) ?_ ?_
              rotate_left
              · intro w'
                go_simp
                with_reducible rfl
              rotate_left
              · simp only [Act.put, List.setIfInBounds_toArray, List.set_cons_zero, List.set_cons_succ, i64_w, i32_w]
                rfl
              refine pure_ (i := 4) (N := some 67) (v := ?_) (a' := ?_) #[false, true, false, false, true, false, false, false] rfl rfl (any_of HT_.out (by kernel_rfl)) (fun _ _ _ h => h) (Or.inl ⟨by rfl, ?_⟩) ?_ ?_
              rotate_left
              · intro w'
                go_simp
                with_reducible rfl
              rotate_left
              · simp only [Act.put, List.setIfInBounds_toArray, List.set_cons_zero, List.set_cons_succ, i64_w, i32_w]
                rfl
              refine take_ (i := 0) (N := some 63) (v := ?_) (a' := ?_) #[true, true, false, false, true, false, false, false] rfl rfl (take_ofW HT_.out HW_.out (by kernel_rfl)) (fun _ _ _ h => h) (Or.inl ⟨by rfl, ?_⟩) hHeld ?_ ?_
              rotate_left
              · rintro w' ⟨s0, s1⟩
                go_simp
                with_reducible rfl
              rotate_left
              · simp only [Act.put, List.setIfInBounds_toArray, List.set_cons_zero, List.set_cons_succ, i64_w, i32_w]
                rfl
              refine take_ (i := 3) (N := some 66) (v := ?_) (a' := ?_) #[true, true, false, true, true, false, false, false] rfl rfl (take_ofW HT_.out HW_.out (by kernel_rfl)) (fun _ _ _ h => h) (Or.inl ⟨by rfl, ?_⟩) hHeld ?_ ?_
              rotate_left
              · rintro w' ⟨s0, s1⟩
                go_simp
                with_reducible rfl
              rotate_left
              · simp only [Act.put, List.setIfInBounds_toArray, List.set_cons_zero, List.set_cons_succ, i64_w, i32_w]
                rfl
              refine one_ (i := 2) (N := some 65) #[true, true, true, true, true, false, false, false] rfl rfl (one_of HT_.out (by kernel_rfl)) (by decide) (fun K hK => ?_)
              refine goes_ Tryd.func17 (by kernel_rfl) rfl #[.agg #[.int .i64 a0_0, .slice A0_1 l0_1.length c0_1], .int .i64 x1_17] (by rfl) rfl rfl (by (try simp only [List.map_toArray, List.map_cons, List.map_nil]); first | done | rfl | (simp only [List.length_drop, List.length_take]; rfl)) ?_
              with_reducible refine (bitmap_Next.calls kj17 a0_0 _ _ l0_1 x1_17 t207 _ ?side1 ?side2 A24.out).mono ?_
              (case side1 => repeat (first | exact (Kd.C_below HR0_1.out HB.out) | (with_reducible refine Kd.C_alloc ?_ _) | (with_reducible refine Kd.C_drewN ?_ _) | (with_reducible refine Kd.C_drew ?_)))
              (case side2 => exact HC0_1.out)
              rintro e w31 ⟨rfl, hb⟩
              refine ⟨_, rfl, ?_⟩
              have n0_ := Aside0.mk (blk_below (g := gb196) (o := .cells #[.int .i64 a0_0, .slice A0_1 l0_1.length c0_1] 24 (0, 0)) (by (with_reducible repeat (first | refine blk_drewN ?_ _ | refine blk_drew ?_ | refine blk_alloc ?_ _)); exact BK196.out) hb)
              have n1_ := Aside0.mk (below_step (by repeat (first | (with_reducible first | exact HB.out | apply below_alloc | apply pw_below_drewN | apply below_drew1 | refine below_set ?_ GE196.out) | exact HB.out)) hb)
              clear BK196
              clear HB
              have BK196 := n0_
              have HB := n1_
              clear n0_ n1_
              (try clear hb)
              (try clear hb2)
              (try clear hk)
              (try clear hi)
              refine hK.out _ _ ⟨(blk_cell BK196.out 0).trans rfl, (blk_cell BK196.out 1).trans rfl⟩ (fun hHeld => ?_)
              clear hK K
              refine norm_ (a' := ?_) ?_ ?_
              rotate_left
              · show Act.put _ (some 65) _ = _
                simp only [Act.put, List.setIfInBounds_toArray, List.set_cons_zero, List.set_cons_succ, i64_w, i32_w]
                rfl
              refine one_ (i := 5) (N := some 68) #[true, true, true, true, true, true, false, false] rfl rfl (one_of HT_.out (by kernel_rfl)) (by decide) (fun K hK => ?_)
              refine goes_ Tryd.func19 (by kernel_rfl) rfl #[.agg #[.int .i64 a0_0, .slice A0_1 l0_1.length c0_1], .int .i64 x1_17] (by rfl) rfl rfl (by (try simp only [List.map_toArray, List.map_cons, List.map_nil]); first | done | rfl | (simp only [List.length_drop, List.length_take]; rfl)) ?_
              with_reducible refine (bitmap_Last.calls kj17 a0_0 _ _ l0_1 x1_17 t208 _ ?side1 ?side2 A25.out).mono ?_
              (case side1 => repeat (first | exact (Kd.C_below HR0_1.out HB.out) | (with_reducible refine Kd.C_alloc ?_ _) | (with_reducible refine Kd.C_drewN ?_ _) | (with_reducible refine Kd.C_drew ?_)))
              (case side2 => exact HC0_1.out)
              rintro e w32 ⟨rfl, hb⟩
              refine ⟨_, rfl, ?_⟩
              have n0_ := Aside0.mk (blk_below (g := gb196) (o := .cells #[.int .i64 a0_0, .slice A0_1 l0_1.length c0_1] 24 (0, 0)) (by (with_reducible repeat (first | refine blk_drewN ?_ _ | refine blk_drew ?_ | refine blk_alloc ?_ _)); exact BK196.out) hb)
              have n1_ := Aside0.mk (below_step (by repeat (first | (with_reducible first | exact HB.out | apply below_alloc | apply pw_below_drewN | apply below_drew1 | refine below_set ?_ GE196.out) | exact HB.out)) hb)
              clear BK196
              clear HB
              have BK196 := n0_
              have HB := n1_
              clear n0_ n1_
              (try clear hb)
              (try clear hb2)
              (try clear hk)
              (try clear hi)
              refine hK.out _ _ ⟨(blk_cell BK196.out 0).trans rfl, (blk_cell BK196.out 1).trans rfl⟩ (fun hHeld => ?_)
              clear hK K
              refine norm_ (a' := ?_) ?_ ?_
              rotate_left
              · show Act.put _ (some 68) _ = _
                simp only [Act.put, List.setIfInBounds_toArray, List.set_cons_zero, List.set_cons_succ, i64_w, i32_w]
                rfl
              refine pure_ (i := 6) (N := some 10) (v := ?_) (a' := ?_) #[true, true, true, true, true, true, true, false] rfl rfl (any_of HT_.out (by kernel_rfl)) (fun _ _ _ h => h) (Or.inl ⟨by rfl, ?_⟩) ?_ ?_
              rotate_left
              · intro w'
                go_simp
                with_reducible rfl
              rotate_left
              · simp only [Act.put, List.setIfInBounds_toArray, List.set_cons_zero, List.set_cons_succ, i64_w, i32_w]
                rfl
              refine pure_ (i := 7) (N := some 11) (v := ?_) (a' := ?_) #[true, true, true, true, true, true, true, true] rfl rfl (any_of HT_.out (by kernel_rfl)) (fun _ _ _ h => h) (Or.inl ⟨by rfl, ?_⟩) ?_ ?_
              rotate_left
              · intro w'
                go_simp
                with_reducible rfl
              rotate_left
              · simp only [Act.put, List.setIfInBounds_toArray, List.set_cons_zero, List.set_cons_succ, i64_w, i32_w]
                rfl
              refine done_ (done_of HT_.out (by kernel_rfl)) ?_
              go_upto_region 10 with (fail)
              go_cut [110] (fun v110 wc => ∃ (kq : Nat) (x110_25 : Bool), v110 = .bool x110_25 ∧ Aside0 (quarrylaw04_BitmapRanks.j2 kq x1_17 a2 t203 t205 t207 t208 x110_25 a0_0 l0_1 = some r) ∧ Aside0 (kq ≤ kj17) ∧ Aside0 (wc.heap[gb196]? = some (.cells #[.int .i64 a0_0, (.slice A0_1 l0_1.length c0_1)] 24 (0, 0))) ∧ Aside0 (Below w.heap.size w wc))
              case first =>
                have H := HC26.out
                clear HC26
                by_cases c33 : (wrap64 (t205 + t206)) = t203
                · rw [if_pos c33] at H
                  have c33b0 : ((wrap64 (t205 + t206)) == t203) = true := beq_iff_eq.mpr c33
                  have c33b1 : ((wrap64 (t205 + t206)) != t203) = false := bne_eq_false_iff_eq.mpr c33
                  clear c33
                  (first | rw [c33b0] | (simp only [i64_w, i32_w]; rw [c33b0]) | skip)
                  by_cases c34 : t205 < 0
                  · rw [if_pos c34] at H
                    have c34b0 : decide (t205 < 0) = true := decide_eq_true c34
                    clear c34
                    have H' := Aside0.mk H
                    clear H
                    go_wp2
                    go_meet
                    case rel => exact ⟨_, (true), (by first | rfl | (simp; done) | (simp [*]; done)), H', ⟨by have := HJ8.out; have := HJ17.out; first | omega | exact Nat.le_refl _⟩, ⟨by (with_reducible repeat (first | refine blk_drewN ?_ _ | refine blk_drew ?_ | refine blk_alloc ?_ _)); exact BK196.out⟩, ⟨by repeat (first | (with_reducible first | exact HB.out | apply below_alloc | apply pw_below_drewN | apply below_drew1 | refine below_set ?_ GE196.out) | exact HB.out)⟩⟩
                  · rw [if_neg c34] at H
                    have c34b0 : decide (t205 < 0) = false := decide_eq_false c34
                    clear c34
                    by_cases c35 : t206 < 0
                    · rw [if_pos c35] at H
                      have c35b0 : decide (t206 < 0) = true := decide_eq_true c35
                      clear c35
                      have H' := Aside0.mk H
                      clear H
                      go_wp2
                      go_meet
                      case rel => exact ⟨_, (true), (by first | rfl | (simp; done) | (simp [*]; done)), H', ⟨by have := HJ8.out; have := HJ17.out; first | omega | exact Nat.le_refl _⟩, ⟨by (with_reducible repeat (first | refine blk_drewN ?_ _ | refine blk_drew ?_ | refine blk_alloc ?_ _)); exact BK196.out⟩, ⟨by repeat (first | (with_reducible first | exact HB.out | apply below_alloc | apply pw_below_drewN | apply below_drew1 | refine below_set ?_ GE196.out) | exact HB.out)⟩⟩
                    · rw [if_neg c35] at H
                      have c35b0 : decide (t206 < 0) = false := decide_eq_false c35
                      clear c35
                      replace H := Option.bind_eq_some_iff.mp H
                      obtain ⟨t209, A360, H⟩ := H
                      replace H : (if t207 = t209 then ((bitmap_Select.f kj17 a0_0 l0_1 (wrap64 (t205 - 1))).bind fun t210 => (if t208 = t210 then (if ((decide (t207 < 0)) != (t206 == 0)) = true then (quarrylaw04_BitmapRanks.j2 kj17 x1_17 a2 t203 t205 t207 t208 true a0_0 l0_1) else (quarrylaw04_BitmapRanks.j2 kj17 x1_17 a2 t203 t205 t207 t208 ((decide (t208 < 0)) != (t205 == 0)) a0_0 l0_1)) else (quarrylaw04_BitmapRanks.j2 kj17 x1_17 a2 t203 t205 t207 t208 true a0_0 l0_1))) else (quarrylaw04_BitmapRanks.j2 kj17 x1_17 a2 t203 t205 t207 t208 true a0_0 l0_1)) = some r := H
                      have A36 := Aside0.mk A360
                      clear A360
                      by_cases c37 : t207 = t209
                      · rw [if_pos c37] at H
                        have c37b0 : (t207 == t209) = true := beq_iff_eq.mpr c37
                        have c37b1 : (t207 != t209) = false := bne_eq_false_iff_eq.mpr c37
                        clear c37
                        replace H := Option.bind_eq_some_iff.mp H
                        obtain ⟨t210, A380, H⟩ := H
                        replace H : (if t208 = t210 then (if ((decide (t207 < 0)) != (t206 == 0)) = true then (quarrylaw04_BitmapRanks.j2 kj17 x1_17 a2 t203 t205 t207 t208 true a0_0 l0_1) else (quarrylaw04_BitmapRanks.j2 kj17 x1_17 a2 t203 t205 t207 t208 ((decide (t208 < 0)) != (t205 == 0)) a0_0 l0_1)) else (quarrylaw04_BitmapRanks.j2 kj17 x1_17 a2 t203 t205 t207 t208 true a0_0 l0_1)) = some r := H
                        have A38 := Aside0.mk A380
                        clear A380
                        by_cases c39 : t208 = t210
                        · rw [if_pos c39] at H
                          have c39b0 : (t208 == t210) = true := beq_iff_eq.mpr c39
                          have c39b1 : (t208 != t210) = false := bne_eq_false_iff_eq.mpr c39
                          clear c39
                          by_cases c40 : ((decide (t207 < 0)) != (t206 == 0)) = true
                          · rw [if_pos c40] at H
                            have c40b0 : ((decide (t207 < 0)) != (t206 == 0)) = true := c40
                            (try (have c40b1 : decide ((decide (t207 < 0)) = (t206 == 0)) = false := by simpa using c40))
                            (try (have c40b2 : ((decide (t207 < 0)) == (t206 == 0)) = false := by simpa using c40))
                            (try (have c40b3 : ¬ ((decide (t207 < 0)) = (t206 == 0)) := by simpa using c40))
                            clear c40
                            have H' := Aside0.mk H
                            clear H
                            have hcz41_0 : w32.cell? ⟨gb196, 0, none⟩ = some (.int .i64 a0_0) := (blk_cell BK196.out 0).trans rfl
                            have hcz41_1 : w32.cell? ⟨gb196, 1, none⟩ = some (.slice A0_1 l0_1.length c0_1) := (blk_cell BK196.out 1).trans rfl
                            have hfz41_0 := blk_frozen BK196.out 0
                            have hfz41_1 := blk_frozen BK196.out 1
                            go_wp2_with (first | (go_at_call 15; (with_reducible refine (bitmap_Select.calls kj17 a0_0 _ _ l0_1 t205 t209 _ ?side1 ?side2 A36.out).mono ?_); (case side1 => repeat (first | exact (Kd.C_below HR0_1.out HB.out) | (with_reducible refine Kd.C_alloc ?_ _) | (with_reducible refine Kd.C_drewN ?_ _) | (with_reducible refine Kd.C_drew ?_))); (case side2 => exact HC0_1.out); rintro e w42 ⟨rfl, hb⟩; have n0_ := Aside0.mk (blk_below (g := gb196) (o := .cells #[.int .i64 a0_0, .slice A0_1 l0_1.length c0_1] 24 (0, 0)) (by (with_reducible repeat (first | refine blk_drewN ?_ _ | refine blk_drew ?_ | refine blk_alloc ?_ _)); exact BK196.out) hb); have n1_ := Aside0.mk (below_step (by repeat (first | (with_reducible first | exact HB.out | apply below_alloc | apply pw_below_drewN | apply below_drew1 | refine below_set ?_ GE196.out) | exact HB.out)) hb); clear BK196; clear HB; have BK196 := n0_; have HB := n1_; clear n0_ n1_; (try clear hb); (try clear hb2); (try clear hk); (try clear hi); have hcz43_0 : w42.cell? ⟨gb196, 0, none⟩ = some (.int .i64 a0_0) := (blk_cell BK196.out 0).trans rfl; have hcz43_1 : w42.cell? ⟨gb196, 1, none⟩ = some (.slice A0_1 l0_1.length c0_1) := (blk_cell BK196.out 1).trans rfl; have hfz43_0 := blk_frozen BK196.out 0; have hfz43_1 := blk_frozen BK196.out 1) | (go_at_call 15; (with_reducible refine (bitmap_Select.calls kj17 a0_0 _ _ l0_1 (wrap64 (t205 - 1)) t210 _ ?side1 ?side2 A38.out).mono ?_); (case side1 => repeat (first | exact (Kd.C_below HR0_1.out HB.out) | (with_reducible refine Kd.C_alloc ?_ _) | (with_reducible refine Kd.C_drewN ?_ _) | (with_reducible refine Kd.C_drew ?_))); (case side2 => exact HC0_1.out); rintro e w44 ⟨rfl, hb⟩; have n0_ := Aside0.mk (blk_below (g := gb196) (o := .cells #[.int .i64 a0_0, .slice A0_1 l0_1.length c0_1] 24 (0, 0)) (by (with_reducible repeat (first | refine blk_drewN ?_ _ | refine blk_drew ?_ | refine blk_alloc ?_ _)); exact BK196.out) hb); have n1_ := Aside0.mk (below_step (by repeat (first | (with_reducible first | exact HB.out | apply below_alloc | apply pw_below_drewN | apply below_drew1 | refine below_set ?_ GE196.out) | exact HB.out)) hb); clear BK196; clear HB; have BK196 := n0_; have HB := n1_; clear n0_ n1_; (try clear hb); (try clear hb2); (try clear hk); (try clear hi)))
                            go_meet
                            case rel => exact ⟨_, (true), (by first | rfl | (simp; done) | (simp [*]; done)), H', ⟨by have := HJ8.out; have := HJ17.out; first | omega | exact Nat.le_refl _⟩, ⟨by (with_reducible repeat (first | refine blk_drewN ?_ _ | refine blk_drew ?_ | refine blk_alloc ?_ _)); exact BK196.out⟩, ⟨by repeat (first | (with_reducible first | exact HB.out | apply below_alloc | apply pw_below_drewN | apply below_drew1 | refine below_set ?_ GE196.out) | exact HB.out)⟩⟩
                          · rw [if_neg c40] at H
                            have c40b0 : ((decide (t207 < 0)) != (t206 == 0)) = false := by simpa using c40
                            (try (have c40b1 : decide ((decide (t207 < 0)) = (t206 == 0)) = true := by simpa using c40))
                            (try (have c40b2 : ((decide (t207 < 0)) == (t206 == 0)) = true := by simpa using c40))
                            clear c40
                            have H' := Aside0.mk H
                            clear H
                            have hcz45_0 : w32.cell? ⟨gb196, 0, none⟩ = some (.int .i64 a0_0) := (blk_cell BK196.out 0).trans rfl
                            have hcz45_1 : w32.cell? ⟨gb196, 1, none⟩ = some (.slice A0_1 l0_1.length c0_1) := (blk_cell BK196.out 1).trans rfl
                            have hfz45_0 := blk_frozen BK196.out 0
                            have hfz45_1 := blk_frozen BK196.out 1
                            go_wp2_with (first | (go_at_call 15; (with_reducible refine (bitmap_Select.calls kj17 a0_0 _ _ l0_1 t205 t209 _ ?side1 ?side2 A36.out).mono ?_); (case side1 => repeat (first | exact (Kd.C_below HR0_1.out HB.out) | (with_reducible refine Kd.C_alloc ?_ _) | (with_reducible refine Kd.C_drewN ?_ _) | (with_reducible refine Kd.C_drew ?_))); (case side2 => exact HC0_1.out); rintro e w46 ⟨rfl, hb⟩; have n0_ := Aside0.mk (blk_below (g := gb196) (o := .cells #[.int .i64 a0_0, .slice A0_1 l0_1.length c0_1] 24 (0, 0)) (by (with_reducible repeat (first | refine blk_drewN ?_ _ | refine blk_drew ?_ | refine blk_alloc ?_ _)); exact BK196.out) hb); have n1_ := Aside0.mk (below_step (by repeat (first | (with_reducible first | exact HB.out | apply below_alloc | apply pw_below_drewN | apply below_drew1 | refine below_set ?_ GE196.out) | exact HB.out)) hb); clear BK196; clear HB; have BK196 := n0_; have HB := n1_; clear n0_ n1_; (try clear hb); (try clear hb2); (try clear hk); (try clear hi); have hcz47_0 : w46.cell? ⟨gb196, 0, none⟩ = some (.int .i64 a0_0) := (blk_cell BK196.out 0).trans rfl; have hcz47_1 : w46.cell? ⟨gb196, 1, none⟩ = some (.slice A0_1 l0_1.length c0_1) := (blk_cell BK196.out 1).trans rfl; have hfz47_0 := blk_frozen BK196.out 0; have hfz47_1 := blk_frozen BK196.out 1) | (go_at_call 15; (with_reducible refine (bitmap_Select.calls kj17 a0_0 _ _ l0_1 (wrap64 (t205 - 1)) t210 _ ?side1 ?side2 A38.out).mono ?_); (case side1 => repeat (first | exact (Kd.C_below HR0_1.out HB.out) | (with_reducible refine Kd.C_alloc ?_ _) | (with_reducible refine Kd.C_drewN ?_ _) | (with_reducible refine Kd.C_drew ?_))); (case side2 => exact HC0_1.out); rintro e w48 ⟨rfl, hb⟩; have n0_ := Aside0.mk (blk_below (g := gb196) (o := .cells #[.int .i64 a0_0, .slice A0_1 l0_1.length c0_1] 24 (0, 0)) (by (with_reducible repeat (first | refine blk_drewN ?_ _ | refine blk_drew ?_ | refine blk_alloc ?_ _)); exact BK196.out) hb); have n1_ := Aside0.mk (below_step (by repeat (first | (with_reducible first | exact HB.out | apply below_alloc | apply pw_below_drewN | apply below_drew1 | refine below_set ?_ GE196.out) | exact HB.out)) hb); clear BK196; clear HB; have BK196 := n0_; have HB := n1_; clear n0_ n1_; (try clear hb); (try clear hb2); (try clear hk); (try clear hi)))
                            go_meet
                            case rel => exact ⟨_, (((decide (t208 < 0)) != (t205 == 0))), (by first | rfl | (simp; done) | (simp [*]; done)), H', ⟨by have := HJ8.out; have := HJ17.out; first | omega | exact Nat.le_refl _⟩, ⟨by (with_reducible repeat (first | refine blk_drewN ?_ _ | refine blk_drew ?_ | refine blk_alloc ?_ _)); exact BK196.out⟩, ⟨by repeat (first | (with_reducible first | exact HB.out | apply below_alloc | apply pw_below_drewN | apply below_drew1 | refine below_set ?_ GE196.out) | exact HB.out)⟩⟩
                        · rw [if_neg c39] at H
                          have c39b0 : (t208 == t210) = false := beq_eq_false_iff_ne.mpr c39
                          have c39b1 : (t208 != t210) = true := bne_iff_ne.mpr c39
                          have H' := Aside0.mk H
                          clear H
                          have hcz49_0 : w32.cell? ⟨gb196, 0, none⟩ = some (.int .i64 a0_0) := (blk_cell BK196.out 0).trans rfl
                          have hcz49_1 : w32.cell? ⟨gb196, 1, none⟩ = some (.slice A0_1 l0_1.length c0_1) := (blk_cell BK196.out 1).trans rfl
                          have hfz49_0 := blk_frozen BK196.out 0
                          have hfz49_1 := blk_frozen BK196.out 1
                          go_wp2_with (first | (go_at_call 15; (with_reducible refine (bitmap_Select.calls kj17 a0_0 _ _ l0_1 t205 t209 _ ?side1 ?side2 A36.out).mono ?_); (case side1 => repeat (first | exact (Kd.C_below HR0_1.out HB.out) | (with_reducible refine Kd.C_alloc ?_ _) | (with_reducible refine Kd.C_drewN ?_ _) | (with_reducible refine Kd.C_drew ?_))); (case side2 => exact HC0_1.out); rintro e w50 ⟨rfl, hb⟩; have n0_ := Aside0.mk (blk_below (g := gb196) (o := .cells #[.int .i64 a0_0, .slice A0_1 l0_1.length c0_1] 24 (0, 0)) (by (with_reducible repeat (first | refine blk_drewN ?_ _ | refine blk_drew ?_ | refine blk_alloc ?_ _)); exact BK196.out) hb); have n1_ := Aside0.mk (below_step (by repeat (first | (with_reducible first | exact HB.out | apply below_alloc | apply pw_below_drewN | apply below_drew1 | refine below_set ?_ GE196.out) | exact HB.out)) hb); clear BK196; clear HB; have BK196 := n0_; have HB := n1_; clear n0_ n1_; (try clear hb); (try clear hb2); (try clear hk); (try clear hi); have hcz51_0 : w50.cell? ⟨gb196, 0, none⟩ = some (.int .i64 a0_0) := (blk_cell BK196.out 0).trans rfl; have hcz51_1 : w50.cell? ⟨gb196, 1, none⟩ = some (.slice A0_1 l0_1.length c0_1) := (blk_cell BK196.out 1).trans rfl; have hfz51_0 := blk_frozen BK196.out 0; have hfz51_1 := blk_frozen BK196.out 1) | (go_at_call 15; (with_reducible refine (bitmap_Select.calls kj17 a0_0 _ _ l0_1 (wrap64 (t205 - 1)) t210 _ ?side1 ?side2 A38.out).mono ?_); (case side1 => repeat (first | exact (Kd.C_below HR0_1.out HB.out) | (with_reducible refine Kd.C_alloc ?_ _) | (with_reducible refine Kd.C_drewN ?_ _) | (with_reducible refine Kd.C_drew ?_))); (case side2 => exact HC0_1.out); rintro e w52 ⟨rfl, hb⟩; have n0_ := Aside0.mk (blk_below (g := gb196) (o := .cells #[.int .i64 a0_0, .slice A0_1 l0_1.length c0_1] 24 (0, 0)) (by (with_reducible repeat (first | refine blk_drewN ?_ _ | refine blk_drew ?_ | refine blk_alloc ?_ _)); exact BK196.out) hb); have n1_ := Aside0.mk (below_step (by repeat (first | (with_reducible first | exact HB.out | apply below_alloc | apply pw_below_drewN | apply below_drew1 | refine below_set ?_ GE196.out) | exact HB.out)) hb); clear BK196; clear HB; have BK196 := n0_; have HB := n1_; clear n0_ n1_; (try clear hb); (try clear hb2); (try clear hk); (try clear hi)))
                          go_meet
                          case rel => exact ⟨_, (true), (by first | rfl | (simp; done) | (simp [*]; done)), H', ⟨by have := HJ8.out; have := HJ17.out; first | omega | exact Nat.le_refl _⟩, ⟨by (with_reducible repeat (first | refine blk_drewN ?_ _ | refine blk_drew ?_ | refine blk_alloc ?_ _)); exact BK196.out⟩, ⟨by repeat (first | (with_reducible first | exact HB.out | apply below_alloc | apply pw_below_drewN | apply below_drew1 | refine below_set ?_ GE196.out) | exact HB.out)⟩⟩
                      · rw [if_neg c37] at H
                        have c37b0 : (t207 == t209) = false := beq_eq_false_iff_ne.mpr c37
                        have c37b1 : (t207 != t209) = true := bne_iff_ne.mpr c37
                        have H' := Aside0.mk H
                        clear H
                        have hcz53_0 : w32.cell? ⟨gb196, 0, none⟩ = some (.int .i64 a0_0) := (blk_cell BK196.out 0).trans rfl
                        have hcz53_1 : w32.cell? ⟨gb196, 1, none⟩ = some (.slice A0_1 l0_1.length c0_1) := (blk_cell BK196.out 1).trans rfl
                        have hfz53_0 := blk_frozen BK196.out 0
                        have hfz53_1 := blk_frozen BK196.out 1
                        go_wp2_with (first | (go_at_call 15; (with_reducible refine (bitmap_Select.calls kj17 a0_0 _ _ l0_1 t205 t209 _ ?side1 ?side2 A36.out).mono ?_); (case side1 => repeat (first | exact (Kd.C_below HR0_1.out HB.out) | (with_reducible refine Kd.C_alloc ?_ _) | (with_reducible refine Kd.C_drewN ?_ _) | (with_reducible refine Kd.C_drew ?_))); (case side2 => exact HC0_1.out); rintro e w54 ⟨rfl, hb⟩; have n0_ := Aside0.mk (blk_below (g := gb196) (o := .cells #[.int .i64 a0_0, .slice A0_1 l0_1.length c0_1] 24 (0, 0)) (by (with_reducible repeat (first | refine blk_drewN ?_ _ | refine blk_drew ?_ | refine blk_alloc ?_ _)); exact BK196.out) hb); have n1_ := Aside0.mk (below_step (by repeat (first | (with_reducible first | exact HB.out | apply below_alloc | apply pw_below_drewN | apply below_drew1 | refine below_set ?_ GE196.out) | exact HB.out)) hb); clear BK196; clear HB; have BK196 := n0_; have HB := n1_; clear n0_ n1_; (try clear hb); (try clear hb2); (try clear hk); (try clear hi)))
                        go_meet
                        case rel => exact ⟨_, (true), (by first | rfl | (simp; done) | (simp [*]; done)), H', ⟨by have := HJ8.out; have := HJ17.out; first | omega | exact Nat.le_refl _⟩, ⟨by (with_reducible repeat (first | refine blk_drewN ?_ _ | refine blk_drew ?_ | refine blk_alloc ?_ _)); exact BK196.out⟩, ⟨by repeat (first | (with_reducible first | exact HB.out | apply below_alloc | apply pw_below_drewN | apply below_drew1 | refine below_set ?_ GE196.out) | exact HB.out)⟩⟩
                · rw [if_neg c33] at H
                  have c33b0 : ((wrap64 (t205 + t206)) == t203) = false := beq_eq_false_iff_ne.mpr c33
                  have c33b1 : ((wrap64 (t205 + t206)) != t203) = true := bne_iff_ne.mpr c33
                  (first | rw [c33b0] | (simp only [i64_w, i32_w]; rw [c33b0]) | skip)
                  have H' := Aside0.mk H
                  clear H
                  go_wp2
                  go_meet
                  case rel => exact ⟨_, (true), (by first | rfl | (simp; done) | (simp [*]; done)), H', ⟨by have := HJ8.out; have := HJ17.out; first | omega | exact Nat.le_refl _⟩, ⟨by (with_reducible repeat (first | refine blk_drewN ?_ _ | refine blk_drew ?_ | refine blk_alloc ?_ _)); exact BK196.out⟩, ⟨by repeat (first | (with_reducible first | exact HB.out | apply below_alloc | apply pw_below_drewN | apply below_drew1 | refine below_set ?_ GE196.out) | exact HB.out)⟩⟩
              case rest => as_aux_lemma =>
                clear HC26
                try clear c1
                try clear c2
                try clear p2
                try clear c3
                try clear c4
                try clear c5
                try clear p6
                try clear c7
                try clear c13
                try clear c16
                try clear c16b0
                try clear c17
                try clear c19
                try clear c22
                try clear c23
                try clear c24
                try clear c33
                try clear c33b0
                try clear c33b1
                try clear c34
                try clear c34b0
                try clear c35
                try clear c35b0
                try clear c37
                try clear c37b0
                try clear c37b1
                try clear c39
                try clear c39b0
                try clear c39b1
                try clear c40
                try clear c40b0
                try clear c40b1
                try clear c40b2
                try clear hcz12_0
                try clear hcz12_1
                try clear hcz14_0
                try clear hcz14_1
                try clear hcz17_0
                try clear hcz17_1
                try clear hcz21_0
                try clear hcz21_1
                try clear hcz41_0
                try clear hcz41_1
                try clear hcz43_0
                try clear hcz43_1
                try clear hcz45_0
                try clear hcz45_1
                try clear hcz47_0
                try clear hcz47_1
                try clear hcz49_0
                try clear hcz49_1
                try clear hcz51_0
                try clear hcz51_1
                try clear hcz53_0
                try clear hcz53_1
                try clear hfz12_0
                try clear hfz12_1
                try clear hfz14_0
                try clear hfz14_1
                try clear hfz17_0
                try clear hfz17_1
                try clear hfz21_0
                try clear hfz21_1
                try clear hfz41_0
                try clear hfz41_1
                try clear hfz43_0
                try clear hfz43_1
                try clear hfz45_0
                try clear hfz45_1
                try clear hfz47_0
                try clear hfz47_1
                try clear hfz49_0
                try clear hfz49_1
                try clear hfz51_0
                try clear hfz51_1
                try clear hfz53_0
                try clear hfz53_1
                try clear p2
                try clear p6
                obtain ⟨kq, x110_25, rfl, HA, HJ25, BK196, HB⟩ := hcut
                cases kq with
                | zero => exact absurd HA.out (by simp [quarrylaw04_BitmapRanks.j2])
                | succ kj25 =>
                  have H := HA.out
                  clear HA
                  simp only [quarrylaw04_BitmapRanks.j2] at H
                  by_cases c55 : x110_25 = true
                  · subst c55
                    have H1 : (none) = some r := by rw [if_pos rfl] at H; exact H
                    clear H
                    have H := H1
                    clear H1
                    exact absurd H (by simp)
                  · replace c55 := Bool.eq_false_iff.mpr c55
                    subst c55
                    have H1 : (if t207 ≥ 0 then (if t207 < x1_17 then (quarrylaw04_BitmapRanks.j3 kj25 x1_17 a2 t203 t205 t207 t208 true a0_0 l0_1) else ((bitmap_Get.f a0_0 l0_1 t207).bind fun t211 => (if t211 = true then ((bitmap_Count.f kj25 a0_0 l0_1 x1_17 t207).bind fun t212 => (quarrylaw04_BitmapRanks.j3 kj25 x1_17 a2 t203 t205 t207 t208 (t212 != 0) a0_0 l0_1)) else (quarrylaw04_BitmapRanks.j3 kj25 x1_17 a2 t203 t205 t207 t208 true a0_0 l0_1)))) else (quarrylaw04_BitmapRanks.j3 kj25 x1_17 a2 t203 t205 t207 t208 false a0_0 l0_1)) = some r := by rw [if_neg (show ¬ (false = true) by decide)] at H; exact H
                    clear H
                    have H := H1
                    clear H1
                    have HC56 := Aside0.mk H
                    clear H
                    go_upto_region 12 with (fail)
                    go_cut [130] (fun v130 wc => ∃ (kq : Nat) (x130_55 : Bool), v130 = .bool x130_55 ∧ Aside0 (quarrylaw04_BitmapRanks.j3 kq x1_17 a2 t203 t205 t207 t208 x130_55 a0_0 l0_1 = some r) ∧ Aside0 (kq ≤ kj25) ∧ Aside0 (wc.heap[gb196]? = some (.cells #[.int .i64 a0_0, (.slice A0_1 l0_1.length c0_1)] 24 (0, 0))) ∧ Aside0 (Below w.heap.size w wc))
                    case first =>
                      have H := HC56.out
                      clear HC56
                      by_cases c57 : t207 ≥ 0
                      · rw [if_pos c57] at H
                        have c57b0 : decide (0 ≤ t207) = true := decide_eq_true c57
                        clear c57
                        (first | rw [c57b0] | (simp only [i64_w, i32_w]; rw [c57b0]) | skip)
                        by_cases c58 : t207 < x1_17
                        · rw [if_pos c58] at H
                          have c58b0 : decide (t207 < x1_17) = true := decide_eq_true c58
                          clear c58
                          have H' := Aside0.mk H
                          clear H
                          go_wp2
                          go_meet
                          case rel => exact ⟨_, (true), (by first | rfl | (simp; done) | (simp [*]; done)), H', ⟨by have := HJ8.out; have := HJ17.out; have := HJ25.out; first | omega | exact Nat.le_refl _⟩, ⟨by (with_reducible repeat (first | refine blk_drewN ?_ _ | refine blk_drew ?_ | refine blk_alloc ?_ _)); exact BK196.out⟩, ⟨by repeat (first | (with_reducible first | exact HB.out | apply below_alloc | apply pw_below_drewN | apply below_drew1 | refine below_set ?_ GE196.out) | exact HB.out)⟩⟩
                        · rw [if_neg c58] at H
                          have c58b0 : decide (t207 < x1_17) = false := decide_eq_false c58
                          clear c58
                          replace H := Option.bind_eq_some_iff.mp H
                          obtain ⟨t211, A590, H⟩ := H
                          replace H : (if t211 = true then ((bitmap_Count.f kj25 a0_0 l0_1 x1_17 t207).bind fun t212 => (quarrylaw04_BitmapRanks.j3 kj25 x1_17 a2 t203 t205 t207 t208 (t212 != 0) a0_0 l0_1)) else (quarrylaw04_BitmapRanks.j3 kj25 x1_17 a2 t203 t205 t207 t208 true a0_0 l0_1)) = some r := H
                          have A59 := Aside0.mk A590
                          clear A590
                          by_cases c60 : t211 = true
                          · subst c60
                            have H1 : ((bitmap_Count.f kj25 a0_0 l0_1 x1_17 t207).bind fun t212 => (quarrylaw04_BitmapRanks.j3 kj25 x1_17 a2 t203 t205 t207 t208 (t212 != 0) a0_0 l0_1)) = some r := by rw [if_pos rfl] at H; exact H
                            clear H
                            have H := H1
                            clear H1
                            replace H := Option.bind_eq_some_iff.mp H
                            obtain ⟨t212, A610, H⟩ := H
                            replace H : (quarrylaw04_BitmapRanks.j3 kj25 x1_17 a2 t203 t205 t207 t208 (t212 != 0) a0_0 l0_1) = some r := H
                            have A61 := Aside0.mk A610
                            clear A610
                            have H' := Aside0.mk H
                            clear H
                            have hcz62_0 : wc.cell? ⟨gb196, 0, none⟩ = some (.int .i64 a0_0) := (blk_cell BK196.out 0).trans rfl
                            have hcz62_1 : wc.cell? ⟨gb196, 1, none⟩ = some (.slice A0_1 l0_1.length c0_1) := (blk_cell BK196.out 1).trans rfl
                            have hfz62_0 := blk_frozen BK196.out 0
                            have hfz62_1 := blk_frozen BK196.out 1
                            go_wp2_with (first | (go_at_call 11; (with_reducible refine (bitmap_Get.calls a0_0 _ _ l0_1 t207 true _ ?side1 ?side2 A59.out).mono ?_); (case side1 => repeat (first | exact (Kd.C_below HR0_1.out HB.out) | (with_reducible refine Kd.C_alloc ?_ _) | (with_reducible refine Kd.C_drewN ?_ _) | (with_reducible refine Kd.C_drew ?_))); (case side2 => exact HC0_1.out); rintro e w63 ⟨rfl, hb⟩; have n0_ := Aside0.mk (blk_below (g := gb196) (o := .cells #[.int .i64 a0_0, .slice A0_1 l0_1.length c0_1] 24 (0, 0)) (by (with_reducible repeat (first | refine blk_drewN ?_ _ | refine blk_drew ?_ | refine blk_alloc ?_ _)); exact BK196.out) hb); have n1_ := Aside0.mk (below_step (by repeat (first | (with_reducible first | exact HB.out | apply below_alloc | apply pw_below_drewN | apply below_drew1 | refine below_set ?_ GE196.out) | exact HB.out)) hb); clear BK196; clear HB; have BK196 := n0_; have HB := n1_; clear n0_ n1_; (try clear hb); (try clear hb2); (try clear hk); (try clear hi); have hcz64_0 : w63.cell? ⟨gb196, 0, none⟩ = some (.int .i64 a0_0) := (blk_cell BK196.out 0).trans rfl; have hcz64_1 : w63.cell? ⟨gb196, 1, none⟩ = some (.slice A0_1 l0_1.length c0_1) := (blk_cell BK196.out 1).trans rfl; have hfz64_0 := blk_frozen BK196.out 0; have hfz64_1 := blk_frozen BK196.out 1) | (go_at_call 13; (with_reducible refine (bitmap_Count.calls kj25 a0_0 _ _ l0_1 x1_17 t207 t212 _ ?side1 ?side2 A61.out).mono ?_); (case side1 => repeat (first | exact (Kd.C_below HR0_1.out HB.out) | (with_reducible refine Kd.C_alloc ?_ _) | (with_reducible refine Kd.C_drewN ?_ _) | (with_reducible refine Kd.C_drew ?_))); (case side2 => exact HC0_1.out); rintro e w65 ⟨rfl, hb⟩; have n0_ := Aside0.mk (blk_below (g := gb196) (o := .cells #[.int .i64 a0_0, .slice A0_1 l0_1.length c0_1] 24 (0, 0)) (by (with_reducible repeat (first | refine blk_drewN ?_ _ | refine blk_drew ?_ | refine blk_alloc ?_ _)); exact BK196.out) hb); have n1_ := Aside0.mk (below_step (by repeat (first | (with_reducible first | exact HB.out | apply below_alloc | apply pw_below_drewN | apply below_drew1 | refine below_set ?_ GE196.out) | exact HB.out)) hb); clear BK196; clear HB; have BK196 := n0_; have HB := n1_; clear n0_ n1_; (try clear hb); (try clear hb2); (try clear hk); (try clear hi)))
                            go_meet
                            case rel => exact ⟨_, ((t212 != 0)), (by first | rfl | (simp; done) | (simp [*]; done)), H', ⟨by have := HJ8.out; have := HJ17.out; have := HJ25.out; first | omega | exact Nat.le_refl _⟩, ⟨by (with_reducible repeat (first | refine blk_drewN ?_ _ | refine blk_drew ?_ | refine blk_alloc ?_ _)); exact BK196.out⟩, ⟨by repeat (first | (with_reducible first | exact HB.out | apply below_alloc | apply pw_below_drewN | apply below_drew1 | refine below_set ?_ GE196.out) | exact HB.out)⟩⟩
                          · replace c60 := Bool.eq_false_iff.mpr c60
                            subst c60
                            have H1 : (quarrylaw04_BitmapRanks.j3 kj25 x1_17 a2 t203 t205 t207 t208 true a0_0 l0_1) = some r := by rw [if_neg (show ¬ (false = true) by decide)] at H; exact H
                            clear H
                            have H := H1
                            clear H1
                            have H' := Aside0.mk H
                            clear H
                            have hcz66_0 : wc.cell? ⟨gb196, 0, none⟩ = some (.int .i64 a0_0) := (blk_cell BK196.out 0).trans rfl
                            have hcz66_1 : wc.cell? ⟨gb196, 1, none⟩ = some (.slice A0_1 l0_1.length c0_1) := (blk_cell BK196.out 1).trans rfl
                            have hfz66_0 := blk_frozen BK196.out 0
                            have hfz66_1 := blk_frozen BK196.out 1
                            go_wp2_with (first | (go_at_call 11; (with_reducible refine (bitmap_Get.calls a0_0 _ _ l0_1 t207 false _ ?side1 ?side2 A59.out).mono ?_); (case side1 => repeat (first | exact (Kd.C_below HR0_1.out HB.out) | (with_reducible refine Kd.C_alloc ?_ _) | (with_reducible refine Kd.C_drewN ?_ _) | (with_reducible refine Kd.C_drew ?_))); (case side2 => exact HC0_1.out); rintro e w67 ⟨rfl, hb⟩; have n0_ := Aside0.mk (blk_below (g := gb196) (o := .cells #[.int .i64 a0_0, .slice A0_1 l0_1.length c0_1] 24 (0, 0)) (by (with_reducible repeat (first | refine blk_drewN ?_ _ | refine blk_drew ?_ | refine blk_alloc ?_ _)); exact BK196.out) hb); have n1_ := Aside0.mk (below_step (by repeat (first | (with_reducible first | exact HB.out | apply below_alloc | apply pw_below_drewN | apply below_drew1 | refine below_set ?_ GE196.out) | exact HB.out)) hb); clear BK196; clear HB; have BK196 := n0_; have HB := n1_; clear n0_ n1_; (try clear hb); (try clear hb2); (try clear hk); (try clear hi)))
                            go_meet
                            case rel => exact ⟨_, (true), (by first | rfl | (simp; done) | (simp [*]; done)), H', ⟨by have := HJ8.out; have := HJ17.out; have := HJ25.out; first | omega | exact Nat.le_refl _⟩, ⟨by (with_reducible repeat (first | refine blk_drewN ?_ _ | refine blk_drew ?_ | refine blk_alloc ?_ _)); exact BK196.out⟩, ⟨by repeat (first | (with_reducible first | exact HB.out | apply below_alloc | apply pw_below_drewN | apply below_drew1 | refine below_set ?_ GE196.out) | exact HB.out)⟩⟩
                      · rw [if_neg c57] at H
                        have c57b0 : decide (0 ≤ t207) = false := decide_eq_false c57
                        clear c57
                        (first | rw [c57b0] | (simp only [i64_w, i32_w]; rw [c57b0]) | skip)
                        have H' := Aside0.mk H
                        clear H
                        go_wp2
                        go_meet
                        case rel => exact ⟨_, (false), (by first | rfl | (simp; done) | (simp [*]; done)), H', ⟨by have := HJ8.out; have := HJ17.out; have := HJ25.out; first | omega | exact Nat.le_refl _⟩, ⟨by (with_reducible repeat (first | refine blk_drewN ?_ _ | refine blk_drew ?_ | refine blk_alloc ?_ _)); exact BK196.out⟩, ⟨by repeat (first | (with_reducible first | exact HB.out | apply below_alloc | apply pw_below_drewN | apply below_drew1 | refine below_set ?_ GE196.out) | exact HB.out)⟩⟩
                    case rest => as_aux_lemma =>
                      clear HC56
                      try clear c1
                      try clear c2
                      try clear p2
                      try clear c3
                      try clear c4
                      try clear c5
                      try clear c6
                      try clear p6
                      try clear c7
                      try clear c13
                      try clear c16
                      try clear c16b0
                      try clear c17
                      try clear c19
                      try clear c22
                      try clear c23
                      try clear c24
                      try clear c33
                      try clear c33b0
                      try clear c33b1
                      try clear c34
                      try clear c34b0
                      try clear c35
                      try clear c35b0
                      try clear c37
                      try clear c37b0
                      try clear c37b1
                      try clear c39
                      try clear c39b0
                      try clear c39b1
                      try clear c40
                      try clear c40b0
                      try clear c40b1
                      try clear c40b2
                      try clear c55
                      try clear c57
                      try clear c57b0
                      try clear c58
                      try clear c58b0
                      try clear c60
                      try clear p64
                      try clear hcz12_0
                      try clear hcz12_1
                      try clear hcz14_0
                      try clear hcz14_1
                      try clear hcz17_0
                      try clear hcz17_1
                      try clear hcz21_0
                      try clear hcz21_1
                      try clear hcz41_0
                      try clear hcz41_1
                      try clear hcz43_0
                      try clear hcz43_1
                      try clear hcz45_0
                      try clear hcz45_1
                      try clear hcz47_0
                      try clear hcz47_1
                      try clear hcz49_0
                      try clear hcz49_1
                      try clear hcz51_0
                      try clear hcz51_1
                      try clear hcz53_0
                      try clear hcz53_1
                      try clear hcz62_0
                      try clear hcz62_1
                      try clear hcz64_0
                      try clear hcz64_1
                      try clear hcz66_0
                      try clear hcz66_1
                      try clear hfz12_0
                      try clear hfz12_1
                      try clear hfz14_0
                      try clear hfz14_1
                      try clear hfz17_0
                      try clear hfz17_1
                      try clear hfz21_0
                      try clear hfz21_1
                      try clear hfz41_0
                      try clear hfz41_1
                      try clear hfz43_0
                      try clear hfz43_1
                      try clear hfz45_0
                      try clear hfz45_1
                      try clear hfz47_0
                      try clear hfz47_1
                      try clear hfz49_0
                      try clear hfz49_1
                      try clear hfz51_0
                      try clear hfz51_1
                      try clear hfz53_0
                      try clear hfz53_1
                      try clear hfz62_0
                      try clear hfz62_1
                      try clear hfz64_0
                      try clear hfz64_1
                      try clear hfz66_0
                      try clear hfz66_1
                      try clear p2
                      try clear p6
                      obtain ⟨kq, x130_55, rfl, HA, HJ55, BK196, HB⟩ := hcut
                      cases kq with
                      | zero => exact absurd HA.out (by simp [quarrylaw04_BitmapRanks.j3])
                      | succ kj55 =>
                        have H := HA.out
                        clear HA
                        simp only [quarrylaw04_BitmapRanks.j3] at H
                        by_cases c68 : x130_55 = true
                        · subst c68
                          have H1 : (none) = some r := by rw [if_pos rfl] at H; exact H
                          clear H
                          have H := H1
                          clear H1
                          exact absurd H (by simp)
                        · replace c68 := Bool.eq_false_iff.mpr c68
                          subst c68
                          have H1 : (if t208 ≥ 0 then (if t208 ≥ x1_17 then (quarrylaw04_BitmapRanks.j4 kj55 x1_17 a2 t203 t207 true a0_0 l0_1) else ((bitmap_Get.f a0_0 l0_1 t208).bind fun t213 => (if t213 = true then ((bitmap_Count.f kj55 a0_0 l0_1 (wrap64 (t208 + 1)) x1_17).bind fun t214 => (if t214 = 0 then ((bitmap_Count.f kj55 a0_0 l0_1 0 t208).bind fun t215 => (quarrylaw04_BitmapRanks.j4 kj55 x1_17 a2 t203 t207 (t215 != (wrap64 (t205 - 1))) a0_0 l0_1)) else (quarrylaw04_BitmapRanks.j4 kj55 x1_17 a2 t203 t207 true a0_0 l0_1))) else (quarrylaw04_BitmapRanks.j4 kj55 x1_17 a2 t203 t207 true a0_0 l0_1)))) else (quarrylaw04_BitmapRanks.j4 kj55 x1_17 a2 t203 t207 false a0_0 l0_1)) = some r := by rw [if_neg (show ¬ (false = true) by decide)] at H; exact H
                          clear H
                          have H := H1
                          clear H1
                          have HC69 := Aside0.mk H
                          clear H
                          go_upto_region 14 with (fail)
                          go_cut [159] (fun v159 wc => ∃ (kq : Nat) (x159_68 : Bool), v159 = .bool x159_68 ∧ Aside0 (quarrylaw04_BitmapRanks.j4 kq x1_17 a2 t203 t207 x159_68 a0_0 l0_1 = some r) ∧ Aside0 (kq ≤ kj55) ∧ Aside0 (wc.heap[gb196]? = some (.cells #[.int .i64 a0_0, (.slice A0_1 l0_1.length c0_1)] 24 (0, 0))) ∧ Aside0 (Below w.heap.size w wc))
                          case first =>
                            have H := HC69.out
                            clear HC69
                            by_cases c70 : t208 ≥ 0
                            · rw [if_pos c70] at H
                              have c70b0 : decide (0 ≤ t208) = true := decide_eq_true c70
                              clear c70
                              (first | rw [c70b0] | (simp only [i64_w, i32_w]; rw [c70b0]) | skip)
                              by_cases c71 : t208 ≥ x1_17
                              · rw [if_pos c71] at H
                                have c71b0 : decide (x1_17 ≤ t208) = true := decide_eq_true c71
                                clear c71
                                have H' := Aside0.mk H
                                clear H
                                go_wp2
                                go_meet
                                case rel => exact ⟨_, (true), (by first | rfl | (simp; done) | (simp [*]; done)), H', ⟨by have := HJ8.out; have := HJ17.out; have := HJ25.out; have := HJ55.out; first | omega | exact Nat.le_refl _⟩, ⟨by (with_reducible repeat (first | refine blk_drewN ?_ _ | refine blk_drew ?_ | refine blk_alloc ?_ _)); exact BK196.out⟩, ⟨by repeat (first | (with_reducible first | exact HB.out | apply below_alloc | apply pw_below_drewN | apply below_drew1 | refine below_set ?_ GE196.out) | exact HB.out)⟩⟩
                              · rw [if_neg c71] at H
                                have c71b0 : decide (x1_17 ≤ t208) = false := decide_eq_false c71
                                clear c71
                                replace H := Option.bind_eq_some_iff.mp H
                                obtain ⟨t213, A720, H⟩ := H
                                replace H : (if t213 = true then ((bitmap_Count.f kj55 a0_0 l0_1 (wrap64 (t208 + 1)) x1_17).bind fun t214 => (if t214 = 0 then ((bitmap_Count.f kj55 a0_0 l0_1 0 t208).bind fun t215 => (quarrylaw04_BitmapRanks.j4 kj55 x1_17 a2 t203 t207 (t215 != (wrap64 (t205 - 1))) a0_0 l0_1)) else (quarrylaw04_BitmapRanks.j4 kj55 x1_17 a2 t203 t207 true a0_0 l0_1))) else (quarrylaw04_BitmapRanks.j4 kj55 x1_17 a2 t203 t207 true a0_0 l0_1)) = some r := H
                                have A72 := Aside0.mk A720
                                clear A720
                                by_cases c73 : t213 = true
                                · subst c73
                                  have H1 : ((bitmap_Count.f kj55 a0_0 l0_1 (wrap64 (t208 + 1)) x1_17).bind fun t214 => (if t214 = 0 then ((bitmap_Count.f kj55 a0_0 l0_1 0 t208).bind fun t215 => (quarrylaw04_BitmapRanks.j4 kj55 x1_17 a2 t203 t207 (t215 != (wrap64 (t205 - 1))) a0_0 l0_1)) else (quarrylaw04_BitmapRanks.j4 kj55 x1_17 a2 t203 t207 true a0_0 l0_1))) = some r := by rw [if_pos rfl] at H; exact H
                                  clear H
                                  have H := H1
                                  clear H1
                                  replace H := Option.bind_eq_some_iff.mp H
                                  obtain ⟨t214, A740, H⟩ := H
                                  replace H : (if t214 = 0 then ((bitmap_Count.f kj55 a0_0 l0_1 0 t208).bind fun t215 => (quarrylaw04_BitmapRanks.j4 kj55 x1_17 a2 t203 t207 (t215 != (wrap64 (t205 - 1))) a0_0 l0_1)) else (quarrylaw04_BitmapRanks.j4 kj55 x1_17 a2 t203 t207 true a0_0 l0_1)) = some r := H
                                  have A74 := Aside0.mk A740
                                  clear A740
                                  by_cases c75 : t214 = 0
                                  · rw [if_pos c75] at H
                                    have c75b0 : (t214 == 0) = true := beq_iff_eq.mpr c75
                                    have c75b1 : (t214 != 0) = false := bne_eq_false_iff_eq.mpr c75
                                    clear c75
                                    replace H := Option.bind_eq_some_iff.mp H
                                    obtain ⟨t215, A760, H⟩ := H
                                    replace H : (quarrylaw04_BitmapRanks.j4 kj55 x1_17 a2 t203 t207 (t215 != (wrap64 (t205 - 1))) a0_0 l0_1) = some r := H
                                    have A76 := Aside0.mk A760
                                    clear A760
                                    have H' := Aside0.mk H
                                    clear H
                                    have hcz77_0 : wc.cell? ⟨gb196, 0, none⟩ = some (.int .i64 a0_0) := (blk_cell BK196.out 0).trans rfl
                                    have hcz77_1 : wc.cell? ⟨gb196, 1, none⟩ = some (.slice A0_1 l0_1.length c0_1) := (blk_cell BK196.out 1).trans rfl
                                    have hfz77_0 := blk_frozen BK196.out 0
                                    have hfz77_1 := blk_frozen BK196.out 1
                                    go_wp2_with (first | (go_at_call 11; (with_reducible refine (bitmap_Get.calls a0_0 _ _ l0_1 t208 true _ ?side1 ?side2 A72.out).mono ?_); (case side1 => repeat (first | exact (Kd.C_below HR0_1.out HB.out) | (with_reducible refine Kd.C_alloc ?_ _) | (with_reducible refine Kd.C_drewN ?_ _) | (with_reducible refine Kd.C_drew ?_))); (case side2 => exact HC0_1.out); rintro e w78 ⟨rfl, hb⟩; have n0_ := Aside0.mk (blk_below (g := gb196) (o := .cells #[.int .i64 a0_0, .slice A0_1 l0_1.length c0_1] 24 (0, 0)) (by (with_reducible repeat (first | refine blk_drewN ?_ _ | refine blk_drew ?_ | refine blk_alloc ?_ _)); exact BK196.out) hb); have n1_ := Aside0.mk (below_step (by repeat (first | (with_reducible first | exact HB.out | apply below_alloc | apply pw_below_drewN | apply below_drew1 | refine below_set ?_ GE196.out) | exact HB.out)) hb); clear BK196; clear HB; have BK196 := n0_; have HB := n1_; clear n0_ n1_; (try clear hb); (try clear hb2); (try clear hk); (try clear hi); have hcz79_0 : w78.cell? ⟨gb196, 0, none⟩ = some (.int .i64 a0_0) := (blk_cell BK196.out 0).trans rfl; have hcz79_1 : w78.cell? ⟨gb196, 1, none⟩ = some (.slice A0_1 l0_1.length c0_1) := (blk_cell BK196.out 1).trans rfl; have hfz79_0 := blk_frozen BK196.out 0; have hfz79_1 := blk_frozen BK196.out 1) | (go_at_call 13; (with_reducible refine (bitmap_Count.calls kj55 a0_0 _ _ l0_1 (wrap64 (t208 + 1)) x1_17 t214 _ ?side1 ?side2 A74.out).mono ?_); (case side1 => repeat (first | exact (Kd.C_below HR0_1.out HB.out) | (with_reducible refine Kd.C_alloc ?_ _) | (with_reducible refine Kd.C_drewN ?_ _) | (with_reducible refine Kd.C_drew ?_))); (case side2 => exact HC0_1.out); rintro e w80 ⟨rfl, hb⟩; have n0_ := Aside0.mk (blk_below (g := gb196) (o := .cells #[.int .i64 a0_0, .slice A0_1 l0_1.length c0_1] 24 (0, 0)) (by (with_reducible repeat (first | refine blk_drewN ?_ _ | refine blk_drew ?_ | refine blk_alloc ?_ _)); exact BK196.out) hb); have n1_ := Aside0.mk (below_step (by repeat (first | (with_reducible first | exact HB.out | apply below_alloc | apply pw_below_drewN | apply below_drew1 | refine below_set ?_ GE196.out) | exact HB.out)) hb); clear BK196; clear HB; have BK196 := n0_; have HB := n1_; clear n0_ n1_; (try clear hb); (try clear hb2); (try clear hk); (try clear hi); have hcz81_0 : w80.cell? ⟨gb196, 0, none⟩ = some (.int .i64 a0_0) := (blk_cell BK196.out 0).trans rfl; have hcz81_1 : w80.cell? ⟨gb196, 1, none⟩ = some (.slice A0_1 l0_1.length c0_1) := (blk_cell BK196.out 1).trans rfl; have hfz81_0 := blk_frozen BK196.out 0; have hfz81_1 := blk_frozen BK196.out 1) | (go_at_call 13; (with_reducible refine (bitmap_Count.calls kj55 a0_0 _ _ l0_1 0 t208 t215 _ ?side1 ?side2 A76.out).mono ?_); (case side1 => repeat (first | exact (Kd.C_below HR0_1.out HB.out) | (with_reducible refine Kd.C_alloc ?_ _) | (with_reducible refine Kd.C_drewN ?_ _) | (with_reducible refine Kd.C_drew ?_))); (case side2 => exact HC0_1.out); rintro e w82 ⟨rfl, hb⟩; have n0_ := Aside0.mk (blk_below (g := gb196) (o := .cells #[.int .i64 a0_0, .slice A0_1 l0_1.length c0_1] 24 (0, 0)) (by (with_reducible repeat (first | refine blk_drewN ?_ _ | refine blk_drew ?_ | refine blk_alloc ?_ _)); exact BK196.out) hb); have n1_ := Aside0.mk (below_step (by repeat (first | (with_reducible first | exact HB.out | apply below_alloc | apply pw_below_drewN | apply below_drew1 | refine below_set ?_ GE196.out) | exact HB.out)) hb); clear BK196; clear HB; have BK196 := n0_; have HB := n1_; clear n0_ n1_; (try clear hb); (try clear hb2); (try clear hk); (try clear hi)))
                                    go_meet
                                    case rel => exact ⟨_, ((t215 != (wrap64 (t205 - 1)))), (by first | rfl | (simp; done) | (simp [*]; done)), H', ⟨by have := HJ8.out; have := HJ17.out; have := HJ25.out; have := HJ55.out; first | omega | exact Nat.le_refl _⟩, ⟨by (with_reducible repeat (first | refine blk_drewN ?_ _ | refine blk_drew ?_ | refine blk_alloc ?_ _)); exact BK196.out⟩, ⟨by repeat (first | (with_reducible first | exact HB.out | apply below_alloc | apply pw_below_drewN | apply below_drew1 | refine below_set ?_ GE196.out) | exact HB.out)⟩⟩
                                  · rw [if_neg c75] at H
                                    have c75b0 : (t214 == 0) = false := beq_eq_false_iff_ne.mpr c75
                                    have c75b1 : (t214 != 0) = true := bne_iff_ne.mpr c75
                                    have H' := Aside0.mk H
                                    clear H
                                    have hcz83_0 : wc.cell? ⟨gb196, 0, none⟩ = some (.int .i64 a0_0) := (blk_cell BK196.out 0).trans rfl
                                    have hcz83_1 : wc.cell? ⟨gb196, 1, none⟩ = some (.slice A0_1 l0_1.length c0_1) := (blk_cell BK196.out 1).trans rfl
                                    have hfz83_0 := blk_frozen BK196.out 0
                                    have hfz83_1 := blk_frozen BK196.out 1
                                    go_wp2_with (first | (go_at_call 11; (with_reducible refine (bitmap_Get.calls a0_0 _ _ l0_1 t208 true _ ?side1 ?side2 A72.out).mono ?_); (case side1 => repeat (first | exact (Kd.C_below HR0_1.out HB.out) | (with_reducible refine Kd.C_alloc ?_ _) | (with_reducible refine Kd.C_drewN ?_ _) | (with_reducible refine Kd.C_drew ?_))); (case side2 => exact HC0_1.out); rintro e w84 ⟨rfl, hb⟩; have n0_ := Aside0.mk (blk_below (g := gb196) (o := .cells #[.int .i64 a0_0, .slice A0_1 l0_1.length c0_1] 24 (0, 0)) (by (with_reducible repeat (first | refine blk_drewN ?_ _ | refine blk_drew ?_ | refine blk_alloc ?_ _)); exact BK196.out) hb); have n1_ := Aside0.mk (below_step (by repeat (first | (with_reducible first | exact HB.out | apply below_alloc | apply pw_below_drewN | apply below_drew1 | refine below_set ?_ GE196.out) | exact HB.out)) hb); clear BK196; clear HB; have BK196 := n0_; have HB := n1_; clear n0_ n1_; (try clear hb); (try clear hb2); (try clear hk); (try clear hi); have hcz85_0 : w84.cell? ⟨gb196, 0, none⟩ = some (.int .i64 a0_0) := (blk_cell BK196.out 0).trans rfl; have hcz85_1 : w84.cell? ⟨gb196, 1, none⟩ = some (.slice A0_1 l0_1.length c0_1) := (blk_cell BK196.out 1).trans rfl; have hfz85_0 := blk_frozen BK196.out 0; have hfz85_1 := blk_frozen BK196.out 1) | (go_at_call 13; (with_reducible refine (bitmap_Count.calls kj55 a0_0 _ _ l0_1 (wrap64 (t208 + 1)) x1_17 t214 _ ?side1 ?side2 A74.out).mono ?_); (case side1 => repeat (first | exact (Kd.C_below HR0_1.out HB.out) | (with_reducible refine Kd.C_alloc ?_ _) | (with_reducible refine Kd.C_drewN ?_ _) | (with_reducible refine Kd.C_drew ?_))); (case side2 => exact HC0_1.out); rintro e w86 ⟨rfl, hb⟩; have n0_ := Aside0.mk (blk_below (g := gb196) (o := .cells #[.int .i64 a0_0, .slice A0_1 l0_1.length c0_1] 24 (0, 0)) (by (with_reducible repeat (first | refine blk_drewN ?_ _ | refine blk_drew ?_ | refine blk_alloc ?_ _)); exact BK196.out) hb); have n1_ := Aside0.mk (below_step (by repeat (first | (with_reducible first | exact HB.out | apply below_alloc | apply pw_below_drewN | apply below_drew1 | refine below_set ?_ GE196.out) | exact HB.out)) hb); clear BK196; clear HB; have BK196 := n0_; have HB := n1_; clear n0_ n1_; (try clear hb); (try clear hb2); (try clear hk); (try clear hi)))
                                    go_meet
                                    case rel => exact ⟨_, (true), (by first | rfl | (simp; done) | (simp [*]; done)), H', ⟨by have := HJ8.out; have := HJ17.out; have := HJ25.out; have := HJ55.out; first | omega | exact Nat.le_refl _⟩, ⟨by (with_reducible repeat (first | refine blk_drewN ?_ _ | refine blk_drew ?_ | refine blk_alloc ?_ _)); exact BK196.out⟩, ⟨by repeat (first | (with_reducible first | exact HB.out | apply below_alloc | apply pw_below_drewN | apply below_drew1 | refine below_set ?_ GE196.out) | exact HB.out)⟩⟩
                                · replace c73 := Bool.eq_false_iff.mpr c73
                                  subst c73
                                  have H1 : (quarrylaw04_BitmapRanks.j4 kj55 x1_17 a2 t203 t207 true a0_0 l0_1) = some r := by rw [if_neg (show ¬ (false = true) by decide)] at H; exact H
                                  clear H
                                  have H := H1
                                  clear H1
                                  have H' := Aside0.mk H
                                  clear H
                                  have hcz87_0 : wc.cell? ⟨gb196, 0, none⟩ = some (.int .i64 a0_0) := (blk_cell BK196.out 0).trans rfl
                                  have hcz87_1 : wc.cell? ⟨gb196, 1, none⟩ = some (.slice A0_1 l0_1.length c0_1) := (blk_cell BK196.out 1).trans rfl
                                  have hfz87_0 := blk_frozen BK196.out 0
                                  have hfz87_1 := blk_frozen BK196.out 1
                                  go_wp2_with (first | (go_at_call 11; (with_reducible refine (bitmap_Get.calls a0_0 _ _ l0_1 t208 false _ ?side1 ?side2 A72.out).mono ?_); (case side1 => repeat (first | exact (Kd.C_below HR0_1.out HB.out) | (with_reducible refine Kd.C_alloc ?_ _) | (with_reducible refine Kd.C_drewN ?_ _) | (with_reducible refine Kd.C_drew ?_))); (case side2 => exact HC0_1.out); rintro e w88 ⟨rfl, hb⟩; have n0_ := Aside0.mk (blk_below (g := gb196) (o := .cells #[.int .i64 a0_0, .slice A0_1 l0_1.length c0_1] 24 (0, 0)) (by (with_reducible repeat (first | refine blk_drewN ?_ _ | refine blk_drew ?_ | refine blk_alloc ?_ _)); exact BK196.out) hb); have n1_ := Aside0.mk (below_step (by repeat (first | (with_reducible first | exact HB.out | apply below_alloc | apply pw_below_drewN | apply below_drew1 | refine below_set ?_ GE196.out) | exact HB.out)) hb); clear BK196; clear HB; have BK196 := n0_; have HB := n1_; clear n0_ n1_; (try clear hb); (try clear hb2); (try clear hk); (try clear hi)))
                                  go_meet
                                  case rel => exact ⟨_, (true), (by first | rfl | (simp; done) | (simp [*]; done)), H', ⟨by have := HJ8.out; have := HJ17.out; have := HJ25.out; have := HJ55.out; first | omega | exact Nat.le_refl _⟩, ⟨by (with_reducible repeat (first | refine blk_drewN ?_ _ | refine blk_drew ?_ | refine blk_alloc ?_ _)); exact BK196.out⟩, ⟨by repeat (first | (with_reducible first | exact HB.out | apply below_alloc | apply pw_below_drewN | apply below_drew1 | refine below_set ?_ GE196.out) | exact HB.out)⟩⟩
                            · rw [if_neg c70] at H
                              have c70b0 : decide (0 ≤ t208) = false := decide_eq_false c70
                              clear c70
                              (first | rw [c70b0] | (simp only [i64_w, i32_w]; rw [c70b0]) | skip)
                              have H' := Aside0.mk H
                              clear H
                              go_wp2
                              go_meet
                              case rel => exact ⟨_, (false), (by first | rfl | (simp; done) | (simp [*]; done)), H', ⟨by have := HJ8.out; have := HJ17.out; have := HJ25.out; have := HJ55.out; first | omega | exact Nat.le_refl _⟩, ⟨by (with_reducible repeat (first | refine blk_drewN ?_ _ | refine blk_drew ?_ | refine blk_alloc ?_ _)); exact BK196.out⟩, ⟨by repeat (first | (with_reducible first | exact HB.out | apply below_alloc | apply pw_below_drewN | apply below_drew1 | refine below_set ?_ GE196.out) | exact HB.out)⟩⟩
                          case rest => as_aux_lemma =>
                            clear HC69
                            try clear c1
                            try clear c2
                            try clear p2
                            try clear c3
                            try clear c4
                            try clear c5
                            try clear c6
                            try clear p6
                            try clear c7
                            try clear c13
                            try clear c16
                            try clear c16b0
                            try clear c17
                            try clear c19
                            try clear c22
                            try clear c23
                            try clear c24
                            try clear c33
                            try clear c33b0
                            try clear c33b1
                            try clear c34
                            try clear c34b0
                            try clear c35
                            try clear c35b0
                            try clear c37
                            try clear c37b0
                            try clear c37b1
                            try clear c39
                            try clear c39b0
                            try clear c39b1
                            try clear c40
                            try clear c40b0
                            try clear c40b1
                            try clear c40b2
                            try clear c55
                            try clear c57
                            try clear c57b0
                            try clear c58
                            try clear c58b0
                            try clear c60
                            try clear p64
                            try clear c68
                            try clear c70
                            try clear c70b0
                            try clear c71
                            try clear c71b0
                            try clear c73
                            try clear c75
                            try clear c75b0
                            try clear c75b1
                            try clear hcz12_0
                            try clear hcz12_1
                            try clear hcz14_0
                            try clear hcz14_1
                            try clear hcz17_0
                            try clear hcz17_1
                            try clear hcz21_0
                            try clear hcz21_1
                            try clear hcz41_0
                            try clear hcz41_1
                            try clear hcz43_0
                            try clear hcz43_1
                            try clear hcz45_0
                            try clear hcz45_1
                            try clear hcz47_0
                            try clear hcz47_1
                            try clear hcz49_0
                            try clear hcz49_1
                            try clear hcz51_0
                            try clear hcz51_1
                            try clear hcz53_0
                            try clear hcz53_1
                            try clear hcz62_0
                            try clear hcz62_1
                            try clear hcz64_0
                            try clear hcz64_1
                            try clear hcz66_0
                            try clear hcz66_1
                            try clear hcz77_0
                            try clear hcz77_1
                            try clear hcz79_0
                            try clear hcz79_1
                            try clear hcz81_0
                            try clear hcz81_1
                            try clear hcz83_0
                            try clear hcz83_1
                            try clear hcz85_0
                            try clear hcz85_1
                            try clear hcz87_0
                            try clear hcz87_1
                            try clear hfz12_0
                            try clear hfz12_1
                            try clear hfz14_0
                            try clear hfz14_1
                            try clear hfz17_0
                            try clear hfz17_1
                            try clear hfz21_0
                            try clear hfz21_1
                            try clear hfz41_0
                            try clear hfz41_1
                            try clear hfz43_0
                            try clear hfz43_1
                            try clear hfz45_0
                            try clear hfz45_1
                            try clear hfz47_0
                            try clear hfz47_1
                            try clear hfz49_0
                            try clear hfz49_1
                            try clear hfz51_0
                            try clear hfz51_1
                            try clear hfz53_0
                            try clear hfz53_1
                            try clear hfz62_0
                            try clear hfz62_1
                            try clear hfz64_0
                            try clear hfz64_1
                            try clear hfz66_0
                            try clear hfz66_1
                            try clear hfz77_0
                            try clear hfz77_1
                            try clear hfz79_0
                            try clear hfz79_1
                            try clear hfz81_0
                            try clear hfz81_1
                            try clear hfz83_0
                            try clear hfz83_1
                            try clear hfz85_0
                            try clear hfz85_1
                            try clear hfz87_0
                            try clear hfz87_1
                            try clear p2
                            try clear p6
                            try clear p64
                            obtain ⟨kq, x159_68, rfl, HA, HJ68, BK196, HB⟩ := hcut
                            cases kq with
                            | zero => exact absurd HA.out (by simp [quarrylaw04_BitmapRanks.j4])
                            | succ kj68 =>
                              have H := HA.out
                              clear HA
                              simp only [quarrylaw04_BitmapRanks.j4] at H
                              by_cases c89 : x159_68 = true
                              · subst c89
                                have H1 : (none) = some r := by rw [if_pos rfl] at H; exact H
                                clear H
                                have H := H1
                                clear H1
                                exact absurd H (by simp)
                              · replace c89 := Bool.eq_false_iff.mpr c89
                                subst c89
                                have H1 : ((bitmap_Get.f a0_0 l0_1 x1_17).bind fun t216 => (if (t216 != (t207 == x1_17)) = true then (none) else ((bitmap_Select.f kj68 a0_0 l0_1 a2).bind fun t217 => (if a2 < 0 then (quarrylaw04_BitmapRanks.j5 kj68 a2 t217 true a0_0 l0_1) else (quarrylaw04_BitmapRanks.j5 kj68 a2 t217 (decide (a2 ≥ t203)) a0_0 l0_1))))) = some r := by rw [if_neg (show ¬ (false = true) by decide)] at H; exact H
                                clear H
                                have H := H1
                                clear H1
                                replace H := Option.bind_eq_some_iff.mp H
                                obtain ⟨t216, A900, H⟩ := H
                                replace H : (if (t216 != (t207 == x1_17)) = true then (none) else ((bitmap_Select.f kj68 a0_0 l0_1 a2).bind fun t217 => (if a2 < 0 then (quarrylaw04_BitmapRanks.j5 kj68 a2 t217 true a0_0 l0_1) else (quarrylaw04_BitmapRanks.j5 kj68 a2 t217 (decide (a2 ≥ t203)) a0_0 l0_1)))) = some r := H
                                have A90 := Aside0.mk A900
                                clear A900
                                by_cases c91 : (t216 != (t207 == x1_17)) = true
                                · rw [if_pos c91] at H
                                  exact absurd H (by simp)
                                · rw [if_neg c91] at H
                                  have c91b0 : (t216 != (t207 == x1_17)) = false := by simpa using c91
                                  (try (have c91b1 : decide (t216 = (t207 == x1_17)) = true := by simpa using c91))
                                  (try (have c91b2 : (t216 == (t207 == x1_17)) = true := by simpa using c91))
                                  clear c91
                                  replace H := Option.bind_eq_some_iff.mp H
                                  obtain ⟨t217, A920, H⟩ := H
                                  replace H : (if a2 < 0 then (quarrylaw04_BitmapRanks.j5 kj68 a2 t217 true a0_0 l0_1) else (quarrylaw04_BitmapRanks.j5 kj68 a2 t217 (decide (a2 ≥ t203)) a0_0 l0_1)) = some r := H
                                  have A92 := Aside0.mk A920
                                  clear A920
                                  have HC93 := Aside0.mk H
                                  clear H
                                  have hcz94_0 : wc.cell? ⟨gb196, 0, none⟩ = some (.int .i64 a0_0) := (blk_cell BK196.out 0).trans rfl
                                  have hcz94_1 : wc.cell? ⟨gb196, 1, none⟩ = some (.slice A0_1 l0_1.length c0_1) := (blk_cell BK196.out 1).trans rfl
                                  have hfz94_0 := blk_frozen BK196.out 0
                                  have hfz94_1 := blk_frozen BK196.out 1
                                  go_upto_region 19 with (first | ((with_reducible refine gate_callee (f := 11) rfl ?_); refine goesL_ (some 162) rfl rfl Tryd.func11 (by kernel_rfl) rfl #[.agg #[.int .i64 a0_0, .slice A0_1 l0_1.length c0_1], .int .i64 x1_17] rfl (by (try simp only [List.map_toArray, List.map_cons, List.map_nil]); first | done | rfl | (simp only [List.length_drop, List.length_take]; rfl)) ?_; (with_reducible refine (bitmap_Get.calls a0_0 _ _ l0_1 x1_17 t216 _ ?side1 ?side2 A90.out).mono ?_); (case side1 => repeat (first | exact (Kd.C_below HR0_1.out HB.out) | (with_reducible refine Kd.C_alloc ?_ _) | (with_reducible refine Kd.C_drewN ?_ _) | (with_reducible refine Kd.C_drew ?_))); (case side2 => exact HC0_1.out); rintro e w95 ⟨rfl, hb⟩; refine ⟨_, rfl, ?_⟩; have n0_ := Aside0.mk (blk_below (g := gb196) (o := .cells #[.int .i64 a0_0, .slice A0_1 l0_1.length c0_1] 24 (0, 0)) (by (with_reducible repeat (first | refine blk_drewN ?_ _ | refine blk_drew ?_ | refine blk_alloc ?_ _)); exact BK196.out) hb); have n1_ := Aside0.mk (below_step (by repeat (first | (with_reducible first | exact HB.out | apply below_alloc | apply pw_below_drewN | apply below_drew1 | refine below_set ?_ GE196.out) | exact HB.out)) hb); clear BK196; clear HB; have BK196 := n0_; have HB := n1_; clear n0_ n1_; (try clear hb); (try clear hb2); (try clear hk); (try clear hi); have hcz96_0 : w95.cell? ⟨gb196, 0, none⟩ = some (.int .i64 a0_0) := (blk_cell BK196.out 0).trans rfl; have hcz96_1 : w95.cell? ⟨gb196, 1, none⟩ = some (.slice A0_1 l0_1.length c0_1) := (blk_cell BK196.out 1).trans rfl; have hfz96_0 := blk_frozen BK196.out 0; have hfz96_1 := blk_frozen BK196.out 1) | ((with_reducible refine gate_callee (f := 15) rfl ?_); refine goesL_ (some 169) rfl rfl Tryd.func15 (by kernel_rfl) rfl #[.agg #[.int .i64 a0_0, .slice A0_1 l0_1.length c0_1], .int .i64 a2] rfl (by (try simp only [List.map_toArray, List.map_cons, List.map_nil]); first | done | rfl | (simp only [List.length_drop, List.length_take]; rfl)) ?_; (with_reducible refine (bitmap_Select.calls kj68 a0_0 _ _ l0_1 a2 t217 _ ?side1 ?side2 A92.out).mono ?_); (case side1 => repeat (first | exact (Kd.C_below HR0_1.out HB.out) | (with_reducible refine Kd.C_alloc ?_ _) | (with_reducible refine Kd.C_drewN ?_ _) | (with_reducible refine Kd.C_drew ?_))); (case side2 => exact HC0_1.out); rintro e w97 ⟨rfl, hb⟩; refine ⟨_, rfl, ?_⟩; have n0_ := Aside0.mk (blk_below (g := gb196) (o := .cells #[.int .i64 a0_0, .slice A0_1 l0_1.length c0_1] 24 (0, 0)) (by (with_reducible repeat (first | refine blk_drewN ?_ _ | refine blk_drew ?_ | refine blk_alloc ?_ _)); exact BK196.out) hb); have n1_ := Aside0.mk (below_step (by repeat (first | (with_reducible first | exact HB.out | apply below_alloc | apply pw_below_drewN | apply below_drew1 | refine below_set ?_ GE196.out) | exact HB.out)) hb); clear BK196; clear HB; have BK196 := n0_; have HB := n1_; clear n0_ n1_; (try clear hb); (try clear hb2); (try clear hk); (try clear hi)))
                                  (try simp only [Act.put, List.setIfInBounds_toArray, List.set_cons_zero, List.set_cons_succ])
                                  go_cut [176] (fun v176 wc => ∃ (kq : Nat) (x176_92 : Bool), v176 = .bool x176_92 ∧ Aside0 (quarrylaw04_BitmapRanks.j5 kq a2 t217 x176_92 a0_0 l0_1 = some r) ∧ Aside0 (kq ≤ kj68) ∧ Aside0 (wc.heap[gb196]? = some (.cells #[.int .i64 a0_0, (.slice A0_1 l0_1.length c0_1)] 24 (0, 0))) ∧ Aside0 (Below w.heap.size w wc))
                                  case first =>
                                    have H := HC93.out
                                    clear HC93
                                    by_cases c98 : a2 < 0
                                    · rw [if_pos c98] at H
                                      have c98b0 : decide (a2 < 0) = true := decide_eq_true c98
                                      clear c98
                                      (first | rw [c98b0] | (simp only [i64_w, i32_w]; rw [c98b0]) | skip)
                                      have H' := Aside0.mk H
                                      clear H
                                      go_wp2
                                      go_meet
                                      case rel => exact ⟨_, (true), (by first | rfl | (simp; done) | (simp [*]; done)), H', ⟨by have := HJ8.out; have := HJ17.out; have := HJ25.out; have := HJ55.out; have := HJ68.out; first | omega | exact Nat.le_refl _⟩, ⟨by (with_reducible repeat (first | refine blk_drewN ?_ _ | refine blk_drew ?_ | refine blk_alloc ?_ _)); exact BK196.out⟩, ⟨by repeat (first | (with_reducible first | exact HB.out | apply below_alloc | apply pw_below_drewN | apply below_drew1 | refine below_set ?_ GE196.out) | exact HB.out)⟩⟩
                                    · rw [if_neg c98] at H
                                      have c98b0 : decide (a2 < 0) = false := decide_eq_false c98
                                      clear c98
                                      (first | rw [c98b0] | (simp only [i64_w, i32_w]; rw [c98b0]) | skip)
                                      have H' := Aside0.mk H
                                      clear H
                                      go_wp2
                                      go_meet
                                      case rel => exact ⟨_, (decide (a2 ≥ t203)), (by first | rfl | (simp; done) | (simp [*]; done)), H', ⟨by have := HJ8.out; have := HJ17.out; have := HJ25.out; have := HJ55.out; have := HJ68.out; first | omega | exact Nat.le_refl _⟩, ⟨by (with_reducible repeat (first | refine blk_drewN ?_ _ | refine blk_drew ?_ | refine blk_alloc ?_ _)); exact BK196.out⟩, ⟨by repeat (first | (with_reducible first | exact HB.out | apply below_alloc | apply pw_below_drewN | apply below_drew1 | refine below_set ?_ GE196.out) | exact HB.out)⟩⟩
                                  case rest => as_aux_lemma =>
                                    clear HC93
                                    try clear c1
                                    try clear c2
                                    try clear p2
                                    try clear c3
                                    try clear c4
                                    try clear c5
                                    try clear c6
                                    try clear p6
                                    try clear c7
                                    try clear c8
                                    try clear c9
                                    try clear c11
                                    try clear c13
                                    try clear c15
                                    try clear c16
                                    try clear c16b0
                                    try clear c17
                                    try clear c19
                                    try clear c22
                                    try clear c23
                                    try clear c24
                                    try clear c33
                                    try clear c33b0
                                    try clear c33b1
                                    try clear c34
                                    try clear c34b0
                                    try clear c35
                                    try clear c35b0
                                    try clear c37
                                    try clear c37b0
                                    try clear c37b1
                                    try clear c39
                                    try clear c39b0
                                    try clear c39b1
                                    try clear c40
                                    try clear c40b0
                                    try clear c40b1
                                    try clear c40b2
                                    try clear c55
                                    try clear c57
                                    try clear c57b0
                                    try clear c58
                                    try clear c58b0
                                    try clear c60
                                    try clear p64
                                    try clear c68
                                    try clear c70
                                    try clear c70b0
                                    try clear c71
                                    try clear c71b0
                                    try clear c73
                                    try clear c75
                                    try clear c75b0
                                    try clear c75b1
                                    try clear c89
                                    try clear c91
                                    try clear c91b0
                                    try clear c91b1
                                    try clear c91b2
                                    try clear c98
                                    try clear c98b0
                                    try clear hcz12_0
                                    try clear hcz12_1
                                    try clear hcz14_0
                                    try clear hcz14_1
                                    try clear hcz17_0
                                    try clear hcz17_1
                                    try clear hcz21_0
                                    try clear hcz21_1
                                    try clear hcz41_0
                                    try clear hcz41_1
                                    try clear hcz43_0
                                    try clear hcz43_1
                                    try clear hcz45_0
                                    try clear hcz45_1
                                    try clear hcz47_0
                                    try clear hcz47_1
                                    try clear hcz49_0
                                    try clear hcz49_1
                                    try clear hcz51_0
                                    try clear hcz51_1
                                    try clear hcz53_0
                                    try clear hcz53_1
                                    try clear hcz62_0
                                    try clear hcz62_1
                                    try clear hcz64_0
                                    try clear hcz64_1
                                    try clear hcz66_0
                                    try clear hcz66_1
                                    try clear hcz77_0
                                    try clear hcz77_1
                                    try clear hcz79_0
                                    try clear hcz79_1
                                    try clear hcz81_0
                                    try clear hcz81_1
                                    try clear hcz83_0
                                    try clear hcz83_1
                                    try clear hcz85_0
                                    try clear hcz85_1
                                    try clear hcz87_0
                                    try clear hcz87_1
                                    try clear hcz94_0
                                    try clear hcz94_1
                                    try clear hcz96_0
                                    try clear hcz96_1
                                    try clear hfz12_0
                                    try clear hfz12_1
                                    try clear hfz14_0
                                    try clear hfz14_1
                                    try clear hfz17_0
                                    try clear hfz17_1
                                    try clear hfz21_0
                                    try clear hfz21_1
                                    try clear hfz41_0
                                    try clear hfz41_1
                                    try clear hfz43_0
                                    try clear hfz43_1
                                    try clear hfz45_0
                                    try clear hfz45_1
                                    try clear hfz47_0
                                    try clear hfz47_1
                                    try clear hfz49_0
                                    try clear hfz49_1
                                    try clear hfz51_0
                                    try clear hfz51_1
                                    try clear hfz53_0
                                    try clear hfz53_1
                                    try clear hfz62_0
                                    try clear hfz62_1
                                    try clear hfz64_0
                                    try clear hfz64_1
                                    try clear hfz66_0
                                    try clear hfz66_1
                                    try clear hfz77_0
                                    try clear hfz77_1
                                    try clear hfz79_0
                                    try clear hfz79_1
                                    try clear hfz81_0
                                    try clear hfz81_1
                                    try clear hfz83_0
                                    try clear hfz83_1
                                    try clear hfz85_0
                                    try clear hfz85_1
                                    try clear hfz87_0
                                    try clear hfz87_1
                                    try clear hfz94_0
                                    try clear hfz94_1
                                    try clear hfz96_0
                                    try clear hfz96_1
                                    try clear p2
                                    try clear p6
                                    try clear p64
                                    obtain ⟨kq, x176_92, rfl, HA, HJ92, BK196, HB⟩ := hcut
                                    cases kq with
                                    | zero => exact absurd HA.out (by simp [quarrylaw04_BitmapRanks.j5])
                                    | succ kj92 =>
                                      have H := HA.out
                                      clear HA
                                      simp only [quarrylaw04_BitmapRanks.j5] at H
                                      by_cases c99 : x176_92 = true
                                      · subst c99
                                        have H1 : (some (t217 == (-1))) = some r := by rw [if_pos rfl] at H; exact H
                                        clear H
                                        have H := H1
                                        clear H1
                                        obtain rfl := Option.some.inj H
                                        go_wp2
                                        go_ret
                                        exact ⟨by first | rfl | (simp [errW_none, errW_some] <;> rfl) | (simp [*, errW_none, errW_some] <;> rfl), by repeat (first | (with_reducible first | exact HB.out | apply below_alloc | apply pw_below_drewN | apply below_drew1 | refine below_set ?_ GE196.out) | exact HB.out)⟩
                                      · replace c99 := Bool.eq_false_iff.mpr c99
                                        subst c99
                                        have H1 : (if t217 ≥ 0 then (if t217 < a0_0 then ((bitmap_Get.f a0_0 l0_1 t217).bind fun t218 => (if t218 = true then ((bitmap_Count.f kj92 a0_0 l0_1 0 t217).bind fun t219 => (some (t219 == a2))) else (none))) else (none)) else (none)) = some r := by rw [if_neg (show ¬ (false = true) by decide)] at H; exact H
                                        clear H
                                        have H := H1
                                        clear H1
                                        by_cases c100 : t217 ≥ 0
                                        · rw [if_pos c100] at H
                                          have c100b0 : decide (0 ≤ t217) = true := decide_eq_true c100
                                          clear c100
                                          by_cases c101 : t217 < a0_0
                                          · rw [if_pos c101] at H
                                            have c101b0 : decide (t217 < a0_0) = true := decide_eq_true c101
                                            clear c101
                                            replace H := Option.bind_eq_some_iff.mp H
                                            obtain ⟨t218, A1020, H⟩ := H
                                            replace H : (if t218 = true then ((bitmap_Count.f kj92 a0_0 l0_1 0 t217).bind fun t219 => (some (t219 == a2))) else (none)) = some r := H
                                            have A102 := Aside0.mk A1020
                                            clear A1020
                                            by_cases c103 : t218 = true
                                            · subst c103
                                              have H1 : ((bitmap_Count.f kj92 a0_0 l0_1 0 t217).bind fun t219 => (some (t219 == a2))) = some r := by rw [if_pos rfl] at H; exact H
                                              clear H
                                              have H := H1
                                              clear H1
                                              replace H := Option.bind_eq_some_iff.mp H
                                              obtain ⟨t219, A1040, H⟩ := H
                                              replace H : (some (t219 == a2)) = some r := H
                                              have A104 := Aside0.mk A1040
                                              clear A1040
                                              obtain rfl := Option.some.inj H
                                              have hcz105_0 : wc.cell? ⟨gb196, 0, none⟩ = some (.int .i64 a0_0) := (blk_cell BK196.out 0).trans rfl
                                              have hcz105_1 : wc.cell? ⟨gb196, 1, none⟩ = some (.slice A0_1 l0_1.length c0_1) := (blk_cell BK196.out 1).trans rfl
                                              have hfz105_0 := blk_frozen BK196.out 0
                                              have hfz105_1 := blk_frozen BK196.out 1
                                              go_wp2_with (first | (go_at_call 11; (with_reducible refine (bitmap_Get.calls a0_0 _ _ l0_1 t217 true _ ?side1 ?side2 A102.out).mono ?_); (case side1 => repeat (first | exact (Kd.C_below HR0_1.out HB.out) | (with_reducible refine Kd.C_alloc ?_ _) | (with_reducible refine Kd.C_drewN ?_ _) | (with_reducible refine Kd.C_drew ?_))); (case side2 => exact HC0_1.out); rintro e w106 ⟨rfl, hb⟩; have n0_ := Aside0.mk (blk_below (g := gb196) (o := .cells #[.int .i64 a0_0, .slice A0_1 l0_1.length c0_1] 24 (0, 0)) (by (with_reducible repeat (first | refine blk_drewN ?_ _ | refine blk_drew ?_ | refine blk_alloc ?_ _)); exact BK196.out) hb); have n1_ := Aside0.mk (below_step (by repeat (first | (with_reducible first | exact HB.out | apply below_alloc | apply pw_below_drewN | apply below_drew1 | refine below_set ?_ GE196.out) | exact HB.out)) hb); clear BK196; clear HB; have BK196 := n0_; have HB := n1_; clear n0_ n1_; (try clear hb); (try clear hb2); (try clear hk); (try clear hi); have hcz107_0 : w106.cell? ⟨gb196, 0, none⟩ = some (.int .i64 a0_0) := (blk_cell BK196.out 0).trans rfl; have hcz107_1 : w106.cell? ⟨gb196, 1, none⟩ = some (.slice A0_1 l0_1.length c0_1) := (blk_cell BK196.out 1).trans rfl; have hfz107_0 := blk_frozen BK196.out 0; have hfz107_1 := blk_frozen BK196.out 1) | (go_at_call 13; (with_reducible refine (bitmap_Count.calls kj92 a0_0 _ _ l0_1 0 t217 t219 _ ?side1 ?side2 A104.out).mono ?_); (case side1 => repeat (first | exact (Kd.C_below HR0_1.out HB.out) | (with_reducible refine Kd.C_alloc ?_ _) | (with_reducible refine Kd.C_drewN ?_ _) | (with_reducible refine Kd.C_drew ?_))); (case side2 => exact HC0_1.out); rintro e w108 ⟨rfl, hb⟩; have n0_ := Aside0.mk (blk_below (g := gb196) (o := .cells #[.int .i64 a0_0, .slice A0_1 l0_1.length c0_1] 24 (0, 0)) (by (with_reducible repeat (first | refine blk_drewN ?_ _ | refine blk_drew ?_ | refine blk_alloc ?_ _)); exact BK196.out) hb); have n1_ := Aside0.mk (below_step (by repeat (first | (with_reducible first | exact HB.out | apply below_alloc | apply pw_below_drewN | apply below_drew1 | refine below_set ?_ GE196.out) | exact HB.out)) hb); clear BK196; clear HB; have BK196 := n0_; have HB := n1_; clear n0_ n1_; (try clear hb); (try clear hb2); (try clear hk); (try clear hi)))
                                              go_ret
                                              exact ⟨by first | rfl | (simp [errW_none, errW_some] <;> rfl) | (simp [*, errW_none, errW_some] <;> rfl), by repeat (first | (with_reducible first | exact HB.out | apply below_alloc | apply pw_below_drewN | apply below_drew1 | refine below_set ?_ GE196.out) | exact HB.out)⟩
                                            · replace c103 := Bool.eq_false_iff.mpr c103
                                              subst c103
                                              have H1 : (none) = some r := by rw [if_neg (show ¬ (false = true) by decide)] at H; exact H
                                              clear H
                                              have H := H1
                                              clear H1
                                              exact absurd H (by simp)
                                          · rw [if_neg c101] at H
                                            exact absurd H (by simp)
                                        · rw [if_neg c100] at H
                                          exact absurd H (by simp)
    · replace c7 := Bool.eq_false_iff.mpr c7
      subst c7
      have H1 : ((bitmap_Count.f k a0_0 l0_1 0 a1).bind fun t199 => (if t199 = 0 then ((bitmap_Select.f k a0_0 l0_1 0).bind fun t200 => (if t200 = (-1) then ((bitmap_Next.f k a0_0 l0_1 0).bind fun t201 => (if t201 = (-1) then ((bitmap_Last.f k a0_0 l0_1 a1).bind fun t202 => (some (t202 == (-1)))) else (none))) else (none))) else (none))) = some r := by rw [if_neg (show ¬ (false = true) by decide)] at H; exact H
      clear H
      have H := H1
      clear H1
      replace H := Option.bind_eq_some_iff.mp H
      obtain ⟨t199, A1090, H⟩ := H
      replace H : (if t199 = 0 then ((bitmap_Select.f k a0_0 l0_1 0).bind fun t200 => (if t200 = (-1) then ((bitmap_Next.f k a0_0 l0_1 0).bind fun t201 => (if t201 = (-1) then ((bitmap_Last.f k a0_0 l0_1 a1).bind fun t202 => (some (t202 == (-1)))) else (none))) else (none))) else (none)) = some r := H
      have A109 := Aside0.mk A1090
      clear A1090
      by_cases c110 : t199 = 0
      · rw [if_pos c110] at H
        have c110b0 : (t199 == 0) = true := beq_iff_eq.mpr c110
        have c110b1 : (t199 != 0) = false := bne_eq_false_iff_eq.mpr c110
        clear c110
        replace H := Option.bind_eq_some_iff.mp H
        obtain ⟨t200, A1110, H⟩ := H
        replace H : (if t200 = (-1) then ((bitmap_Next.f k a0_0 l0_1 0).bind fun t201 => (if t201 = (-1) then ((bitmap_Last.f k a0_0 l0_1 a1).bind fun t202 => (some (t202 == (-1)))) else (none))) else (none)) = some r := H
        have A111 := Aside0.mk A1110
        clear A1110
        by_cases c112 : t200 = (-1)
        · rw [if_pos c112] at H
          have c112b0 : (t200 == (-1)) = true := beq_iff_eq.mpr c112
          have c112b1 : (t200 != (-1)) = false := bne_eq_false_iff_eq.mpr c112
          clear c112
          replace H := Option.bind_eq_some_iff.mp H
          obtain ⟨t201, A1130, H⟩ := H
          replace H : (if t201 = (-1) then ((bitmap_Last.f k a0_0 l0_1 a1).bind fun t202 => (some (t202 == (-1)))) else (none)) = some r := H
          have A113 := Aside0.mk A1130
          clear A1130
          by_cases c114 : t201 = (-1)
          · rw [if_pos c114] at H
            have c114b0 : (t201 == (-1)) = true := beq_iff_eq.mpr c114
            have c114b1 : (t201 != (-1)) = false := bne_eq_false_iff_eq.mpr c114
            clear c114
            replace H := Option.bind_eq_some_iff.mp H
            obtain ⟨t202, A1150, H⟩ := H
            replace H : (some (t202 == (-1))) = some r := H
            have A115 := Aside0.mk A1150
            clear A1150
            obtain rfl := Option.some.inj H
            go_enter Tryd.func4, Tryd.ntmps4
            go_wp2_with (first | ((with_reducible refine gate_dst (N := 3) rfl ?_); refine box_event ?hg (N := 3) ?hd (cs := #[.int .i64 a0_0, .slice A0_1 l0_1.length c0_1]) (t := 24) ?hr ?_; (case hd => rfl); (case hg => rfl); (case hr => first | (go_simp; done) | (go_simp; rfl)); intro gb196 hg w116 hbox hb; have n0_ := Aside0.mk (below_step (by repeat (first | (with_reducible first | exact HB.out | apply below_alloc | apply pw_below_drewN | apply below_drew1) | exact HB.out)) hb); have n1_ := Aside0.mk (hbox); have n2_ := Aside0.mk ((by rw [hg]; exact (below_size (by repeat (first | (with_reducible first | exact HB.out | apply below_alloc | apply pw_below_drewN | apply below_drew1) | exact HB.out))) : w.heap.size ≤ gb196)); have n3_ := Aside0.mk ((by rw [hg]; exact (below_size (by repeat (first | (with_reducible first | exact HB.out | apply below_alloc | apply pw_below_drewN | apply below_drew1) | exact HB.out))) : w.heap.size ≤ gb196)); clear HB; have HB := n0_; have BK196 := n1_; have GW196 := n2_; have GE196 := n3_; clear n0_ n1_ n2_ n3_; clear hb hbox hg) | ((with_reducible refine gate_callee (f := 22) rfl ?_); refine goesL_ (some 13) rfl rfl Tryd.func22 (by kernel_rfl) rfl #[] rfl (by (try simp only [List.map_toArray, List.map_cons, List.map_nil]); first | done | rfl | (simp only [List.length_drop, List.length_take]; rfl)) ?_; (with_reducible refine (quarrylaw04_awake.calls k  true _ A4.out).mono ?_); rintro e w117 ⟨rfl, hb⟩; refine ⟨_, rfl, ?_⟩; have n0_ := Aside0.mk (blk_below (g := gb196) (o := .cells #[.int .i64 a0_0, .slice A0_1 l0_1.length c0_1] 24 (0, 0)) (by (with_reducible repeat (first | refine blk_drewN ?_ _ | refine blk_drew ?_ | refine blk_alloc ?_ _)); exact BK196.out) hb); have n1_ := Aside0.mk (below_step (by repeat (first | (with_reducible first | exact HB.out | apply below_alloc | apply pw_below_drewN | apply below_drew1 | refine below_set ?_ GE196.out) | exact HB.out)) hb); clear BK196; clear HB; have BK196 := n0_; have HB := n1_; clear n0_ n1_; (try clear hb); (try clear hb2); (try clear hk); (try clear hi); have hcz118_0 : w117.cell? ⟨gb196, 0, none⟩ = some (.int .i64 a0_0) := (blk_cell BK196.out 0).trans rfl; have hcz118_1 : w117.cell? ⟨gb196, 1, none⟩ = some (.slice A0_1 l0_1.length c0_1) := (blk_cell BK196.out 1).trans rfl; have hfz118_0 := blk_frozen BK196.out 0; have hfz118_1 := blk_frozen BK196.out 1) | ((with_reducible refine gate_callee (f := 23) rfl ?_); refine goesL_ (some 16) rfl rfl Tryd.func23 (by kernel_rfl) rfl #[.agg #[.int .i64 a0_0, .slice A0_1 l0_1.length c0_1]] rfl (by (try simp only [List.map_toArray, List.map_cons, List.map_nil]); first | done | rfl | (simp only [List.length_drop, List.length_take]; rfl)) ?_; (with_reducible refine (bitmap_Formed.calls a0_0 _ _ l0_1 false _ ?side1 ?side2 A6.out).mono ?_); (case side1 => repeat (first | exact (Kd.C_below HR0_1.out HB.out) | (with_reducible refine Kd.C_alloc ?_ _) | (with_reducible refine Kd.C_drewN ?_ _) | (with_reducible refine Kd.C_drew ?_))); (case side2 => exact HC0_1.out); rintro e w119 ⟨rfl, hb⟩; refine ⟨_, rfl, ?_⟩; have n0_ := Aside0.mk (blk_below (g := gb196) (o := .cells #[.int .i64 a0_0, .slice A0_1 l0_1.length c0_1] 24 (0, 0)) (by (with_reducible repeat (first | refine blk_drewN ?_ _ | refine blk_drew ?_ | refine blk_alloc ?_ _)); exact BK196.out) hb); have n1_ := Aside0.mk (below_step (by repeat (first | (with_reducible first | exact HB.out | apply below_alloc | apply pw_below_drewN | apply below_drew1 | refine below_set ?_ GE196.out) | exact HB.out)) hb); clear BK196; clear HB; have BK196 := n0_; have HB := n1_; clear n0_ n1_; (try clear hb); (try clear hb2); (try clear hk); (try clear hi); have hcz120_0 : w119.cell? ⟨gb196, 0, none⟩ = some (.int .i64 a0_0) := (blk_cell BK196.out 0).trans rfl; have hcz120_1 : w119.cell? ⟨gb196, 1, none⟩ = some (.slice A0_1 l0_1.length c0_1) := (blk_cell BK196.out 1).trans rfl; have hfz120_0 := blk_frozen BK196.out 0; have hfz120_1 := blk_frozen BK196.out 1) | ((with_reducible refine gate_callee (f := 13) rfl ?_); refine goesL_ (some 20) rfl rfl Tryd.func13 (by kernel_rfl) rfl #[.agg #[.int .i64 a0_0, .slice A0_1 l0_1.length c0_1], .int .i64 0, .int .i64 a1] rfl (by (try simp only [List.map_toArray, List.map_cons, List.map_nil]); first | done | rfl | (simp only [List.length_drop, List.length_take]; rfl)) ?_; (with_reducible refine (bitmap_Count.calls k a0_0 _ _ l0_1 0 a1 t199 _ ?side1 ?side2 A109.out).mono ?_); (case side1 => repeat (first | exact (Kd.C_below HR0_1.out HB.out) | (with_reducible refine Kd.C_alloc ?_ _) | (with_reducible refine Kd.C_drewN ?_ _) | (with_reducible refine Kd.C_drew ?_))); (case side2 => exact HC0_1.out); rintro e w121 ⟨rfl, hb⟩; refine ⟨_, rfl, ?_⟩; have n0_ := Aside0.mk (blk_below (g := gb196) (o := .cells #[.int .i64 a0_0, .slice A0_1 l0_1.length c0_1] 24 (0, 0)) (by (with_reducible repeat (first | refine blk_drewN ?_ _ | refine blk_drew ?_ | refine blk_alloc ?_ _)); exact BK196.out) hb); have n1_ := Aside0.mk (below_step (by repeat (first | (with_reducible first | exact HB.out | apply below_alloc | apply pw_below_drewN | apply below_drew1 | refine below_set ?_ GE196.out) | exact HB.out)) hb); clear BK196; clear HB; have BK196 := n0_; have HB := n1_; clear n0_ n1_; (try clear hb); (try clear hb2); (try clear hk); (try clear hi); have hcz122_0 : w121.cell? ⟨gb196, 0, none⟩ = some (.int .i64 a0_0) := (blk_cell BK196.out 0).trans rfl; have hcz122_1 : w121.cell? ⟨gb196, 1, none⟩ = some (.slice A0_1 l0_1.length c0_1) := (blk_cell BK196.out 1).trans rfl; have hfz122_0 := blk_frozen BK196.out 0; have hfz122_1 := blk_frozen BK196.out 1) | (go_at_call 15; (with_reducible refine (bitmap_Select.calls k a0_0 _ _ l0_1 0 t200 _ ?side1 ?side2 A111.out).mono ?_); (case side1 => repeat (first | exact (Kd.C_below HR0_1.out HB.out) | (with_reducible refine Kd.C_alloc ?_ _) | (with_reducible refine Kd.C_drewN ?_ _) | (with_reducible refine Kd.C_drew ?_))); (case side2 => exact HC0_1.out); rintro e w123 ⟨rfl, hb⟩; have n0_ := Aside0.mk (blk_below (g := gb196) (o := .cells #[.int .i64 a0_0, .slice A0_1 l0_1.length c0_1] 24 (0, 0)) (by (with_reducible repeat (first | refine blk_drewN ?_ _ | refine blk_drew ?_ | refine blk_alloc ?_ _)); exact BK196.out) hb); have n1_ := Aside0.mk (below_step (by repeat (first | (with_reducible first | exact HB.out | apply below_alloc | apply pw_below_drewN | apply below_drew1 | refine below_set ?_ GE196.out) | exact HB.out)) hb); clear BK196; clear HB; have BK196 := n0_; have HB := n1_; clear n0_ n1_; (try clear hb); (try clear hb2); (try clear hk); (try clear hi); have hcz124_0 : w123.cell? ⟨gb196, 0, none⟩ = some (.int .i64 a0_0) := (blk_cell BK196.out 0).trans rfl; have hcz124_1 : w123.cell? ⟨gb196, 1, none⟩ = some (.slice A0_1 l0_1.length c0_1) := (blk_cell BK196.out 1).trans rfl; have hfz124_0 := blk_frozen BK196.out 0; have hfz124_1 := blk_frozen BK196.out 1) | (go_at_call 17; (with_reducible refine (bitmap_Next.calls k a0_0 _ _ l0_1 0 t201 _ ?side1 ?side2 A113.out).mono ?_); (case side1 => repeat (first | exact (Kd.C_below HR0_1.out HB.out) | (with_reducible refine Kd.C_alloc ?_ _) | (with_reducible refine Kd.C_drewN ?_ _) | (with_reducible refine Kd.C_drew ?_))); (case side2 => exact HC0_1.out); rintro e w125 ⟨rfl, hb⟩; have n0_ := Aside0.mk (blk_below (g := gb196) (o := .cells #[.int .i64 a0_0, .slice A0_1 l0_1.length c0_1] 24 (0, 0)) (by (with_reducible repeat (first | refine blk_drewN ?_ _ | refine blk_drew ?_ | refine blk_alloc ?_ _)); exact BK196.out) hb); have n1_ := Aside0.mk (below_step (by repeat (first | (with_reducible first | exact HB.out | apply below_alloc | apply pw_below_drewN | apply below_drew1 | refine below_set ?_ GE196.out) | exact HB.out)) hb); clear BK196; clear HB; have BK196 := n0_; have HB := n1_; clear n0_ n1_; (try clear hb); (try clear hb2); (try clear hk); (try clear hi); have hcz126_0 : w125.cell? ⟨gb196, 0, none⟩ = some (.int .i64 a0_0) := (blk_cell BK196.out 0).trans rfl; have hcz126_1 : w125.cell? ⟨gb196, 1, none⟩ = some (.slice A0_1 l0_1.length c0_1) := (blk_cell BK196.out 1).trans rfl; have hfz126_0 := blk_frozen BK196.out 0; have hfz126_1 := blk_frozen BK196.out 1) | (go_at_call 19; (with_reducible refine (bitmap_Last.calls k a0_0 _ _ l0_1 a1 t202 _ ?side1 ?side2 A115.out).mono ?_); (case side1 => repeat (first | exact (Kd.C_below HR0_1.out HB.out) | (with_reducible refine Kd.C_alloc ?_ _) | (with_reducible refine Kd.C_drewN ?_ _) | (with_reducible refine Kd.C_drew ?_))); (case side2 => exact HC0_1.out); rintro e w127 ⟨rfl, hb⟩; have n0_ := Aside0.mk (blk_below (g := gb196) (o := .cells #[.int .i64 a0_0, .slice A0_1 l0_1.length c0_1] 24 (0, 0)) (by (with_reducible repeat (first | refine blk_drewN ?_ _ | refine blk_drew ?_ | refine blk_alloc ?_ _)); exact BK196.out) hb); have n1_ := Aside0.mk (below_step (by repeat (first | (with_reducible first | exact HB.out | apply below_alloc | apply pw_below_drewN | apply below_drew1 | refine below_set ?_ GE196.out) | exact HB.out)) hb); clear BK196; clear HB; have BK196 := n0_; have HB := n1_; clear n0_ n1_; (try clear hb); (try clear hb2); (try clear hk); (try clear hi)))
            go_ret
            exact ⟨by first | rfl | (simp [errW_none, errW_some] <;> rfl) | (simp [*, errW_none, errW_some] <;> rfl), by repeat (first | (with_reducible first | exact HB.out | apply below_alloc | apply pw_below_drewN | apply below_drew1 | refine below_set ?_ GE196.out) | exact HB.out)⟩
          · rw [if_neg c114] at H
            exact absurd H (by simp)
        · rw [if_neg c112] at H
          exact absurd H (by simp)
      · rw [if_neg c110] at H
        exact absurd H (by simp)
  · replace c5 := Bool.eq_false_iff.mpr c5
    subst c5
    have H1 : (none) = some r := by rw [if_neg (show ¬ (false = true) by decide)] at H; exact H
    clear H
    have H := H1
    clear H1
    exact absurd H (by simp)

end Go.Proofs.YtahmpmlbonpabaaDoor.PBitmapRanks
