/- DecimalSplits: Of of a text is Read of all of it; a number reads the same behind other things, and alone; what is read is well shaped. No condition. -/
import Derived.Test.YtplokhniibdniaaDoorDecimalSplitsOfIs
import Derived.Test.YtplokhniibdniaaDoorDecimalSplitsFormed
import Derived.Test.YtplokhniibdniaaDoorNumFm
namespace Go.Proofs.YtplokhniibdniaaDoor.Pure
open Go.RowKit Go.Proofs.YtplokhniibdniaaDoor.PDecimalSplits Go.Proofs.YtplokhniibdniaaDoorW.PrintWords Go.Proofs.YtplokhniibdniaaDoorW.PrintLast Go.Proofs.YtplokhniibdniaaDoorW.PrintMore Go.Proofs.YtplokhniibdniaaDoor.Dec Go.Proofs.YtplokhniibdniaaDoor.Reader

theorem nil_list : (⟨#[]⟩ : ByteArray).toList = [] := by rw [ByteArray.toList_eq]
theorem same_dec (b : Bool) (s : ByteArray) (e : Int) : (!(b == b) || (!(s.toList == s.toList) || (!(e == e)))) = false := by simp
theorem same_dec' (b : Bool) (s : ByteArray) (e : Int) : (b == b && (s.toList == s.toList && (e == e))) = true := by simp
theorem zero_dec : (!false && ((⟨#[]⟩ : ByteArray).toList == ([] : List UInt8) && ((0 : Int) == 0))) = true := by rw [nil_list]; rfl
theorem zero_dec' : (false || (!((⟨#[]⟩ : ByteArray).toList == ([] : List UInt8)) || (!((0 : Int) == 0)))) = false := by rw [nil_list]; rfl
/- ∀ (a0 : ByteArray) (a1 : ByteArray), .. → ∃ k, quarrylaw11_DecimalSplits.f k a0 a1 = some true -/
theorem DecimalSplits : quarrylaw11_DecimalSplits.Pure := by
  intro s A hs hA
  refine ⟨s.size + 20, ?_⟩
  obtain ⟨k, hk⟩ : ∃ k, s.size + 20 = k + 1 + 1 + 1 := ⟨s.size + 17, by omega⟩
  rw [hk]
  have hr0 := read_at s 0 (Nat.zero_le _) (by omega) (by omega)
  rw [show ((0 : Nat) : Int) = 0 from rfl] at hr0
  have hr1 := read_at (A ++ s) A.size (by rw [cat_size]; omega) (by rw [cat_size]; omega) (by rw [cat_size]; omega)
  have hc := cat_read A s 0
  rw [Nat.add_zero] at hc
  rw [hc] at hr1
  have hof := of_is s (by omega)
  have hpf := parts_fin s (startOf s 0) (start_le s 0 (Nat.zero_le _))
  have hcases := readOf_cases s 0 (Nat.zero_le _)
  have hw : wrap64 (((partsOf s (startOf s 0)).fin : Int) + (A.size : Int)) = (A.size : Int) + ((partsOf s (startOf s 0)).fin : Int) := by
    unfold wrap64
    omega
  unfold quarrylaw11_DecimalSplits.f
  rw [awake_is, Option.bind_some, if_pos rfl, hr0, Option.bind_some, if_pos (by omega), hr1, Option.bind_some]
  simp only
  rw [same_dec, if_neg (by decide), if_pos trivial]
  rcases hcases with ⟨hR, ho⟩ | hrest
  · rw [hR] at hof ⊢
    simp only
    rw [hw]
    simp only [bne_self_eq_false]
    have ho1 : ofR (false, (⟨#[]⟩ : ByteArray), 0, ((partsOf s (startOf s 0)).fin : Int), 110) s.size = (false, ⟨#[]⟩, 0, 110) := by
      unfold ofR
      rw [if_pos rfl]
    rw [ho1] at hof
    rw [quarrylaw11_DecimalSplits.j0, if_neg (by decide), hof, Option.bind_some, if_pos rfl, zero_dec, if_pos rfl, if_pos (by omega), if_pos (by omega), same_dec', if_pos rfl]
    rfl
  · obtain ⟨n, d, x, e, hR, hok, he, hfm⟩ : ∃ n d x e, readOf s 0 = (n, d, x, ((partsOf s (startOf s 0)).fin : Int), e) ∧ (partsOf s (startOf s 0)).ok = true ∧ (e = 0 ∨ (e = 111 ∧ n = false ∧ d = ⟨#[]⟩ ∧ x = 0)) ∧ (e = 0 → fm d x = true) := by
      rcases hrest with ⟨hR, ho⟩ | ⟨n, l, d, e, hR, hq, hD, ho⟩
      · exact ⟨_, _, _, _, hR, ho, .inr ⟨rfl, rfl, rfl, rfl⟩, fun h => by cases h⟩
      · exact ⟨_, _, _, _, hR, ho, .inl rfl, fun _ => num_fm hD hq⟩
    have hlf := hpf.2.2 hok
    obtain ⟨hcut, hcs⟩ := cut_mk s (partsOf s (startOf s 0)).fin hpf.1
    have hread := cut_read hcut hok hcs.symm
    have hof2 := of_is (s.extract 0 (partsOf s (startOf s 0)).fin) (by omega)
    rw [hread, hcs] at hof2
    rw [hR] at hof hof2 ⊢
    have e110 : e ≠ 110 := by
      rcases he with rfl | ⟨rfl, _⟩ <;> decide
    have ho2 : ofR (n, d, x, ((partsOf s (startOf s 0)).fin : Int), e) (partsOf s (startOf s 0)).fin = (n, d, x, e) := by
      unfold ofR
      rw [if_neg e110, if_neg (by simp)]
    rw [ho2] at hof2
    simp only
    rw [hw]
    simp only [bne_self_eq_false]
    have hds : d.size ≤ s.size := read_small s 0 (Nat.zero_le _) hR
    have hsz : d.size ≤ 140737488351232 := by omega
    have hjump : (if e = 0 then (if ((partsOf s (startOf s 0)).fin : Int) < 1 then quarrylaw11_DecimalSplits.j1 (k + 1 + 1) s ((partsOf s (startOf s 0)).fin : Int) e (ofR (n, d, x, ((partsOf s (startOf s 0)).fin : Int), e) s.size).2.2.2 true n d x (ofR (n, d, x, ((partsOf s (startOf s 0)).fin : Int), e) s.size).1 (ofR (n, d, x, ((partsOf s (startOf s 0)).fin : Int), e) s.size).2.1 (ofR (n, d, x, ((partsOf s (startOf s 0)).fin : Int), e) s.size).2.2.1 else quarrylaw11_DecimalSplits.j1 (k + 1 + 1) s ((partsOf s (startOf s 0)).fin : Int) e (ofR (n, d, x, ((partsOf s (startOf s 0)).fin : Int), e) s.size).2.2.2 (decide (((partsOf s (startOf s 0)).fin : Int) > (s.size : Int))) n d x (ofR (n, d, x, ((partsOf s (startOf s 0)).fin : Int), e) s.size).1 (ofR (n, d, x, ((partsOf s (startOf s 0)).fin : Int), e) s.size).2.1 (ofR (n, d, x, ((partsOf s (startOf s 0)).fin : Int), e) s.size).2.2.1)
        else (if e = 111 then (if ((partsOf s (startOf s 0)).fin : Int) < 1 then quarrylaw11_DecimalSplits.j1 (k + 1 + 1) s ((partsOf s (startOf s 0)).fin : Int) e (ofR (n, d, x, ((partsOf s (startOf s 0)).fin : Int), e) s.size).2.2.2 true n d x (ofR (n, d, x, ((partsOf s (startOf s 0)).fin : Int), e) s.size).1 (ofR (n, d, x, ((partsOf s (startOf s 0)).fin : Int), e) s.size).2.1 (ofR (n, d, x, ((partsOf s (startOf s 0)).fin : Int), e) s.size).2.2.1 else quarrylaw11_DecimalSplits.j1 (k + 1 + 1) s ((partsOf s (startOf s 0)).fin : Int) e (ofR (n, d, x, ((partsOf s (startOf s 0)).fin : Int), e) s.size).2.2.2 (decide (((partsOf s (startOf s 0)).fin : Int) > (s.size : Int))) n d x (ofR (n, d, x, ((partsOf s (startOf s 0)).fin : Int), e) s.size).1 (ofR (n, d, x, ((partsOf s (startOf s 0)).fin : Int), e) s.size).2.1 (ofR (n, d, x, ((partsOf s (startOf s 0)).fin : Int), e) s.size).2.2.1)
          else quarrylaw11_DecimalSplits.j1 (k + 1 + 1) s ((partsOf s (startOf s 0)).fin : Int) e (ofR (n, d, x, ((partsOf s (startOf s 0)).fin : Int), e) s.size).2.2.2 true n d x (ofR (n, d, x, ((partsOf s (startOf s 0)).fin : Int), e) s.size).1 (ofR (n, d, x, ((partsOf s (startOf s 0)).fin : Int), e) s.size).2.1 (ofR (n, d, x, ((partsOf s (startOf s 0)).fin : Int), e) s.size).2.2.1))
        = quarrylaw11_DecimalSplits.j1 (k + 1 + 1) s ((partsOf s (startOf s 0)).fin : Int) e (ofR (n, d, x, ((partsOf s (startOf s 0)).fin : Int), e) s.size).2.2.2 false n d x (ofR (n, d, x, ((partsOf s (startOf s 0)).fin : Int), e) s.size).1 (ofR (n, d, x, ((partsOf s (startOf s 0)).fin : Int), e) s.size).2.1 (ofR (n, d, x, ((partsOf s (startOf s 0)).fin : Int), e) s.size).2.2.1 := by
      have hd : decide (((partsOf s (startOf s 0)).fin : Int) > (s.size : Int)) = false := decide_eq_false (by omega)
      have h1 : ¬ ((partsOf s (startOf s 0)).fin : Int) < 1 := by omega
      rw [hd, if_neg h1]
      rcases he with rfl | ⟨rfl, _⟩
      · rw [if_pos rfl]
      · rw [if_neg (by decide), if_pos rfl]
    rw [quarrylaw11_DecimalSplits.j0, if_neg (by decide), hof, Option.bind_some, if_neg e110]
    refine Eq.trans hjump ?_
    have hx : ((partsOf s (startOf s 0)).fin : Int).toNat = (partsOf s (startOf s 0)).fin := Int.toNat_natCast _
    rw [quarrylaw11_DecimalSplits.j1, if_neg (by decide), if_pos (by omega), if_pos (by omega), hx, hof2, Option.bind_some]
    simp only
    rw [same_dec, if_neg (by decide), if_pos trivial]
    have hj : quarrylaw11_DecimalSplits.j2 (k + 1) s ((partsOf s (startOf s 0)).fin : Int) e (ofR (n, d, x, ((partsOf s (startOf s 0)).fin : Int), e) s.size).2.2.2 false n d x (ofR (n, d, x, ((partsOf s (startOf s 0)).fin : Int), e) s.size).1 (ofR (n, d, x, ((partsOf s (startOf s 0)).fin : Int), e) s.size).2.1 (ofR (n, d, x, ((partsOf s (startOf s 0)).fin : Int), e) s.size).2.2.1 = some true := by
      rw [quarrylaw11_DecimalSplits.j2, if_neg (by decide)]
      by_cases hend : (partsOf s (startOf s 0)).fin = s.size
      · have ho3 : ofR (n, d, x, ((partsOf s (startOf s 0)).fin : Int), e) s.size = (n, d, x, e) := by
          rw [← hend]
          exact ho2
        rw [ho3, if_pos (by omega)]
        simp only
        rw [same_dec', if_pos rfl]
        simp
      · have ho3 : ofR (n, d, x, ((partsOf s (startOf s 0)).fin : Int), e) s.size = (false, ⟨#[]⟩, 0, 110) := by
          have hlt : ((partsOf s (startOf s 0)).fin : Int) < (s.size : Int) := by omega
          unfold ofR
          rw [if_neg e110]
          exact if_pos hlt
        rw [ho3, if_neg (by omega)]
        simp only
        rw [zero_dec]
        rfl
    rcases he with rfl | ⟨rfl, rfl, rfl, rfl⟩
    · rw [if_pos rfl, formed_is n d x hsz _ (by omega), Option.bind_some, hfm rfl, if_pos rfl, if_neg (by decide)]
      exact hj
    · rw [if_neg (by decide), if_pos rfl, zero_dec']
      exact hj
end Go.Proofs.YtplokhniibdniaaDoor.Pure
