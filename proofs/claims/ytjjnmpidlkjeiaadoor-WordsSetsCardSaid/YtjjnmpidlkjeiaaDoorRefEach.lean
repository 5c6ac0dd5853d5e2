/- quarryref03.Each: the places of the set bits, rising. -/
import Derived.Test.YtjjnmpidlkjeiaaDoorPWordsSetsx1
import Derived.Test.YtjjnmpidlkjeiaaDoorEachIt
import Derived.Test.YtjjnmpidlkjeiaaDoorU64b
import Derived.Test.YtjjnmpidlkjeiaaDoorCount
namespace Go.Proofs.YtjjnmpidlkjeiaaDoor
open Go.RowKit Go.Proofs.YtjjnmpidlkjeiaaDoor.PWordsSets Go.Proofs.YtjjnmpidlkjeiaaDoorW.PrintWords Go.Proofs.YtjjnmpidlkjeiaaDoorW.PrintLast Go.Proofs.YtjjnmpidlkjeiaaDoorW.PrintMore
open Go.Proofs.YtjjnmpidlkjeiaaDoor.Ones Go.Proofs.YtjjnmpidlkjeiaaDoor.U64

theorem ref_bit (x : Nat) (hx : x < 18446744073709551616) (i : Nat) (hi : i < 64) : quarryref03_Has.f (x : Int) (i : Int) = some (x.testBit i) := by
  have e : (x : Int) = I (BitVec.ofNat 64 x) := by
    unfold I
    rw [BitVec.toNat_ofNat, Nat.mod_eq_of_lt (by omega)]
  have hb : (BitVec.ofNat 64 x).getLsbD i = x.testBit i := by
    rw [BitVec.getLsbD_ofNat]
    simp [hi]
  unfold quarryref03_Has.f
  rw [if_pos (by rw [IntKind.wrap_u64]; omega), e, shr_word _ i hi, bit_I, hb]
  cases x.testBit i <;> rfl
theorem ref_l0 (x : Nat) (hx : x < 18446744073709551616) : ∀ (m i k : Nat) (acc : List Int), i + m = 64 → m < k → acc.length + m < 17592186044416 →
    quarryref03_Each.l0 k (x : Int) acc (i : Int) = some (acc ++ ((List.range' i m).filter (x.testBit ·)).map (fun i : Nat => (i : Int))) := by
  intro m
  induction m with
  | zero =>
    intro i k acc hi hk _
    obtain ⟨k, rfl⟩ : ∃ k', k = k' + 1 := ⟨k - 1, by omega⟩
    rw [quarryref03_Each.l0, if_neg (by omega)]
    simp
  | succ m ih =>
    intro i k acc hi hk hl
    obtain ⟨k, rfl⟩ : ∃ k', k = k' + 1 := ⟨k - 1, by omega⟩
    have e : wrap64 ((i : Int) + 1) = ((i + 1 : Nat) : Int) := by
      unfold wrap64
      omega
    rw [quarryref03_Each.l0, if_pos (by omega), ref_bit x hx i (by omega), Option.bind_some, e, List.range'_succ]
    cases hb : x.testBit i with
    | true =>
      rw [if_pos rfl, if_pos (by omega), ih (i + 1) k _ (by omega) (by omega) (by rw [List.length_append, List.length_singleton]; omega)]
      simp [hb]
    | false =>
      rw [if_neg (by decide), ih (i + 1) k _ (by omega) (by omega) (by omega)]
      simp [hb]
def cast (l : List Nat) : List Int := l.map (fun i : Nat => (i : Int))
theorem ref_is (x : Nat) (hx : x < 18446744073709551616) : quarryref03_Each.f 100 (x : Int) = some ((places x).map (fun i : Nat => (i : Int))) := by
  have := ref_l0 x hx 64 0 100 [] (by decide) (by decide) (by decide)
  unfold quarryref03_Each.f
  rw [show ((0 : Nat) : Int) = 0 from rfl] at this
  rw [this, List.nil_append, ← List.range_eq_range']
  rfl
theorem ref_calls (x : Nat) (hx : x < 18446744073709551616) (w : World) :
    Calls Tryd.prog 7 #[.int .u64 (x : Int)] w fun e w' => ∃ A c, e = .returned (.slice A ((places x).map (fun i : Nat => (i : Int))).length c) ∧ ((places x).map (fun i : Nat => (i : Int))).length ≤ c ∧ ReadsOf (fun i : Int => Value.int .i64 i) 0 w' A ((places x).map (fun i : Nat => (i : Int))).length ((places x).map (fun i : Nat => (i : Int))) ∧ Below w.heap.size w w' := by
  refine (quarryref03_Each.calls 100 (x : Int) _ w (ref_is x hx)).mono ?_
  rintro e w' ⟨v, rfl, hR, hb⟩
  obtain ⟨A, c, rfl, hc, hC⟩ := Kd.R_reads hR
  exact ⟨A, c, rfl, hc, Kd.reads_of_C hC, hb⟩
end Go.Proofs.YtjjnmpidlkjeiaaDoor
