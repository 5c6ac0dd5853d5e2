/- Cmp is an order. Plain Lean. -/
import Derived.Test.YtplokhniibdniaaDoorCmpDef
namespace Go.Proofs.YtplokhniibdniaaDoor.Dec
open Go.RowKit Go.Proofs.YtplokhniibdniaaDoorW.PrintWords Go.Proofs.YtplokhniibdniaaDoorW.PrintLast Go.Proofs.YtplokhniibdniaaDoorW.PrintMore

theorem cb_anti : ∀ x y : List UInt8, Lib.compareBytes y x = -Lib.compareBytes x y
  | [], [] => rfl
  | [], _ :: _ => rfl
  | _ :: _, [] => rfl
  | a :: x, b :: y => by
    have ih := cb_anti x y
    simp only [Lib.compareBytes]
    rcases Nat.lt_trichotomy a.toNat b.toNat with h | h | h
    · have h2 : a < b := h
      have h3 : ¬ b < a := by rw [UInt8.lt_iff_toNat_lt]; omega
      rw [if_neg h3, if_pos h2, if_pos h2]
      rfl
    · obtain rfl : a = b := UInt8.toNat_inj.1 h
      have h2 : ¬ a < a := by rw [UInt8.lt_iff_toNat_lt]; omega
      rw [if_neg h2, if_neg h2, if_neg h2, if_neg h2]
      exact ih
    · have h2 : b < a := h
      have h3 : ¬ a < b := by rw [UInt8.lt_iff_toNat_lt]; omega
      rw [if_pos h2, if_neg h3, if_pos h2]
/-- What an order's answers go by. -/
def Goes (p q r : Int) : Prop := p ≤ 0 → q ≤ 0 → r ≤ 0 ∧ (r = 0 → p = 0 ∧ q = 0)
theorem cb_trans : ∀ x y z : List UInt8, Goes (Lib.compareBytes x y) (Lib.compareBytes y z) (Lib.compareBytes x z)
  | [], [], [] => fun _ _ => ⟨Int.le_refl _, fun _ => ⟨rfl, rfl⟩⟩
  | [], [], _ :: _ => fun _ _ => ⟨(show (-1 : Int) ≤ 0 from by decide), fun h => absurd (show (-1 : Int) = 0 from h) (by decide)⟩
  | [], _ :: _, [] => fun _ h => absurd (show (1 : Int) ≤ 0 from h) (by decide)
  | [], _ :: _, _ :: _ => fun _ _ => ⟨(show (-1 : Int) ≤ 0 from by decide), fun h => absurd (show (-1 : Int) = 0 from h) (by decide)⟩
  | _ :: _, [], _ => fun h _ => absurd (show (1 : Int) ≤ 0 from h) (by decide)
  | _ :: _, _ :: _, [] => fun _ h => absurd (show (1 : Int) ≤ 0 from h) (by decide)
  | a :: x, b :: y, c :: z => by
    have ih := cb_trans x y z
    simp only [Lib.compareBytes, UInt8.lt_iff_toNat_lt]
    unfold Goes at ih ⊢
    repeat' split
    all_goals first | omega | (intro h1 h2; exact ih h1 h2)
theorem cm_anti (a b : Int) : cm b a = -cm a b := by
  unfold cm
  repeat' split
  all_goals omega
theorem sg_flip (n : Bool) (s : ByteArray) : sg (!n) s = -sg n s := by
  unfold sg
  split
  · rfl
  · cases n <;> rfl
/-- The magnitudes' order. -/
def mag (sa : ByteArray) (ea : Int) (sb : ByteArray) (eb : Int) : Int :=
  if cm ((sa.size : Int) + ea) ((sb.size : Int) + eb) = 0 then Lib.compareBytes sa.data.toList sb.data.toList else cm ((sa.size : Int) + ea) ((sb.size : Int) + eb)
theorem mag_vals (sa : ByteArray) (ea : Int) (sb : ByteArray) (eb : Int) : mag sa ea sb eb = 0 ∨ mag sa ea sb eb = 1 ∨ mag sa ea sb eb = -1 := by
  unfold mag
  split
  · exact cb_vals _ _
  · exact cm_vals _ _
theorem mag_anti (sa : ByteArray) (ea : Int) (sb : ByteArray) (eb : Int) : mag sb eb sa ea = -mag sa ea sb eb := by
  unfold mag
  rw [cm_anti ((sa.size : Int) + ea) ((sb.size : Int) + eb), cb_anti sa.data.toList sb.data.toList]
  split <;> split <;> first | rfl | omega
theorem mag_trans (sa : ByteArray) (ea : Int) (sb : ByteArray) (eb : Int) (sc : ByteArray) (ec : Int) : Goes (mag sa ea sb eb) (mag sb eb sc ec) (mag sa ea sc ec) := by
  have h := cb_trans sa.data.toList sb.data.toList sc.data.toList
  unfold Goes mag cm at *
  generalize (sa.size : Int) + ea = i
  generalize (sb.size : Int) + eb = j
  generalize (sc.size : Int) + ec = l
  rcases Int.lt_trichotomy i j with h1 | h1 | h1 <;> rcases Int.lt_trichotomy j l with h2 | h2 | h2 <;> rcases Int.lt_trichotomy i l with h3 | h3 | h3
  all_goals first
    | (exfalso; omega)
    | (simp only [h1, h2, h3, if_true, if_false, gt_iff_lt, Int.lt_irrefl]
       repeat' split
       all_goals first | omega | exact h | (intro a b; omega))
/-- What Cmp tells of two that are well shaped. -/
def cv (na : Bool) (sa : ByteArray) (ea : Int) (nb : Bool) (sb : ByteArray) (eb : Int) : Int :=
  if sg na sa ≠ sg nb sb ∨ sg na sa = 0 then cm (sg na sa) (sg nb sb) else sg na sa * mag sa ea sb eb
theorem cmp_good {na : Bool} {sa : ByteArray} {ea : Int} {nb : Bool} {sb : ByteArray} {eb : Int} (ha : fm sa ea = true) (hb : fm sb eb = true) : cmpS na sa ea nb sb eb = (cv na sa ea nb sb eb, 0) := by
  unfold cmpS cv mag
  rw [ha, hb, if_neg (by decide)]
  split <;> rfl
theorem cmp_bad {na : Bool} {sa : ByteArray} {ea : Int} {nb : Bool} {sb : ByteArray} {eb : Int} (h : (fm sa ea && fm sb eb) = false) : cmpS na sa ea nb sb eb = (0, 1) := by
  unfold cmpS
  rw [if_pos h]
section
variable (na : Bool) (sa : ByteArray) (ea : Int) (nb : Bool) (sb : ByteArray) (eb : Int) (nc : Bool) (sc : ByteArray) (ec : Int)
theorem cv_vals : cv na sa ea nb sb eb = 0 ∨ cv na sa ea nb sb eb = 1 ∨ cv na sa ea nb sb eb = -1 := by
  unfold cv
  split
  · exact cm_vals _ _
  · have h1 := sg_vals na sa
    have h2 := mag_vals sa ea sb eb
    generalize sg na sa = p at *
    generalize mag sa ea sb eb = q at *
    rcases h1 with rfl | rfl | rfl <;> rcases h2 with rfl | rfl | rfl <;> decide
theorem cv_anti : cv nb sb eb na sa ea = -cv na sa ea nb sb eb := by
  unfold cv
  rw [mag_anti sa ea sb eb, cm_anti (sg na sa) (sg nb sb)]
  have h1 := sg_vals na sa
  have h2 := sg_vals nb sb
  generalize mag sa ea sb eb = q
  generalize sg na sa = p at *
  generalize sg nb sb = r at *
  rcases h1 with rfl | rfl | rfl <;> rcases h2 with rfl | rfl | rfl <;> simp [cm]
theorem cv_flip : cv (!na) sa ea (!nb) sb eb = -cv na sa ea nb sb eb := by
  unfold cv
  rw [sg_flip, sg_flip]
  have h1 := sg_vals na sa
  have h2 := sg_vals nb sb
  generalize mag sa ea sb eb = q
  generalize sg na sa = p at *
  generalize sg nb sb = r at *
  rcases h1 with rfl | rfl | rfl <;> rcases h2 with rfl | rfl | rfl <;> simp [cm]
theorem cv_trans : Goes (cv na sa ea nb sb eb) (cv nb sb eb nc sc ec) (cv na sa ea nc sc ec) := by
  have t1 := mag_trans sa ea sb eb sc ec
  have t2 := mag_trans sc ec sb eb sa ea
  rw [mag_anti sa ea sb eb, mag_anti sb eb sc ec, mag_anti sa ea sc ec] at t2
  have h1 := sg_vals na sa
  have h2 := sg_vals nb sb
  have h3 := sg_vals nc sc
  unfold Goes cv at *
  generalize mag sa ea sb eb = u at *
  generalize mag sb eb sc ec = v at *
  generalize mag sa ea sc ec = t at *
  generalize sg na sa = p at *
  generalize sg nb sb = q at *
  generalize sg nc sc = r at *
  rcases h1 with rfl | rfl | rfl <;> rcases h2 with rfl | rfl | rfl <;> rcases h3 with rfl | rfl | rfl <;> simp [cm] at * <;> omega
end
end Go.Proofs.YtplokhniibdniaaDoor.Dec
