/- quarryref03.Runs: the rows of set bits, rising. -/
import Derived.Test.YtjjnmpidlkjeiaaDoorPWordsRunsx1
import Derived.Test.YtjjnmpidlkjeiaaDoorRunsGives
import Derived.Test.YtjjnmpidlkjeiaaDoorU64b
namespace Go.Proofs.YtjjnmpidlkjeiaaDoor
open Go.RowKit Go.Proofs.YtjjnmpidlkjeiaaDoor.PWordsRuns Go.Proofs.YtjjnmpidlkjeiaaDoorW.PrintWords Go.Proofs.YtjjnmpidlkjeiaaDoorW.PrintLast Go.Proofs.YtjjnmpidlkjeiaaDoorW.PrintMore
open Go.Proofs.YtjjnmpidlkjeiaaDoor.U64

theorem refr_bit (x : Nat) (hx : x < 18446744073709551616) (i : Nat) (hi : i < 64) : quarryref03_Has.f (x : Int) (i : Int) = some (x.testBit i) := by
  have e : (x : Int) = I (BitVec.ofNat 64 x) := by
    unfold I
    rw [BitVec.toNat_ofNat, Nat.mod_eq_of_lt (by omega)]
  have hb : (BitVec.ofNat 64 x).getLsbD i = x.testBit i := by
    rw [BitVec.getLsbD_ofNat]
    simp [hi]
  unfold quarryref03_Has.f
  rw [if_pos (by rw [IntKind.wrap_u64]; omega), e, shr_word _ i hi, bit_I, hb]
  cases x.testBit i <;> rfl
theorem fsts_app (a b : List (Nat × Nat)) : fsts (a ++ b) = fsts a ++ fsts b := List.map_append
theorem snds_app (a b : List (Nat × Nat)) : snds (a ++ b) = snds a ++ snds b := List.map_append
theorem fsts_len (a : List (Nat × Nat)) : (fsts a).length = a.length := List.length_map _
theorem snds_len (a : List (Nat × Nat)) : (snds a).length = a.length := List.length_map _
theorem snds_rd (acc : List (Nat × Nat)) (a c : Nat) : rd (snds (acc ++ [(a, c)])) (acc.length : Int) = (c : Int) := by
  unfold rd
  simp [snds]
theorem snds_set (acc : List (Nat × Nat)) (a c d : Nat) : (snds (acc ++ [(a, c)])).set acc.length (d : Int) = snds (acc ++ [(a, d)]) := by
  simp [snds]
theorem refr_l0 (x : Nat) (hx : x < 18446744073709551616) : ∀ (m i k : Nat), i + m = 64 → m < k →
    (∀ acc : List (Nat × Nat), acc.length ≤ i → (i = 0 ∨ x.testBit (i - 1) = false) →
      quarryref03_Runs.l0 k (x : Int) (fsts acc) (snds acc) (i : Int) = some (fsts (acc ++ runs x m i), snds (acc ++ runs x m i))) ∧
    (∀ (acc : List (Nat × Nat)) (a c : Nat), acc.length + 1 ≤ i → c ≤ i → x.testBit (i - 1) = true →
      quarryref03_Runs.l0 k (x : Int) (fsts (acc ++ [(a, c)])) (snds (acc ++ [(a, c)])) (i : Int) = some (fsts (acc ++ (a, c + ones x m i) :: runs x m i), snds (acc ++ (a, c + ones x m i) :: runs x m i))) := by
  intro m
  induction m with
  | zero =>
    intro i k hi hk
    obtain ⟨k, rfl⟩ : ∃ k', k = k' + 1 := ⟨k - 1, by omega⟩
    constructor
    · intro acc _ _
      rw [quarryref03_Runs.l0, if_neg (by omega), runs, List.append_nil]
    · intro acc a c _ _ _
      rw [quarryref03_Runs.l0, if_neg (by omega), runs, ones, Nat.add_zero]
  | succ m ih =>
    intro i k hi hk
    obtain ⟨k, rfl⟩ : ∃ k', k = k' + 1 := ⟨k - 1, by omega⟩
    obtain ⟨ih1, ih2⟩ := ih (i + 1) k (by omega) (by omega)
    have e : wrap64 ((i : Int) + 1) = ((i + 1 : Nat) : Int) := by
      unfold wrap64
      omega
    constructor
    · intro acc hl hprev
      have hf := fsts_len acc
      have hs := snds_len acc
      rw [quarryref03_Runs.l0, if_pos (by omega), refr_bit x hx i (by omega), Option.bind_some, e]
      cases hb : x.testBit i with
      | true =>
        have hbeg : begins x i = true := by
          unfold begins
          rw [hb]
          rcases hprev with h | h
          · rw [h]
            rfl
          · rw [h]
            simp
        have hrow : runs x (m + 1) i = (i, ones x (m + 1) i) :: runs x m (i + 1) := by rw [runs, if_pos hbeg]
        have hones : ones x (m + 1) i = 1 + ones x m (i + 1) := by
          rw [ones, if_pos hb]
          omega
        have hnext := ih2 acc i 1 (by omega) (by omega) (by rw [Nat.add_sub_cancel]; exact hb)
        have hopen : quarryref03_Runs.l0 k (x : Int) (fsts acc ++ [(i : Int)]) (snds acc ++ [1]) ((i + 1 : Nat) : Int) = some (fsts (acc ++ runs x (m + 1) i), snds (acc ++ runs x (m + 1) i)) := by
          have a1 : fsts [(i, 1)] = [(i : Int)] := rfl
          have a2 : snds [(i, 1)] = [1] := rfl
          rw [hrow, hones]
          rw [fsts_app acc [(i, 1)], snds_app acc [(i, 1)], a1, a2] at hnext
          exact hnext
        rw [if_pos rfl]
        by_cases h0 : (i : Int) > 0
        · have hp : x.testBit (i - 1) = false := hprev.resolve_left (by omega)
          have e1 : wrap64 ((i : Int) - 1) = ((i - 1 : Nat) : Int) := by
            unfold wrap64
            omega
          rw [if_pos h0, e1, refr_bit x hx (i - 1) (by omega), Option.bind_some, hp, if_neg (by decide), if_pos (by omega), if_pos (by omega)]
          exact hopen
        · rw [if_neg h0, if_pos (by omega), if_pos (by omega)]
          exact hopen
      | false =>
        have hbeg : begins x i = false := by
          unfold begins
          rw [hb]
          rfl
        rw [if_neg (by decide), runs, hbeg, if_neg (by decide)]
        exact ih1 acc (by omega) (.inr (by rw [Nat.add_sub_cancel]; exact hb))
    · intro acc a c hl hc hprev
      have hf := fsts_len (acc ++ [(a, c)])
      have hs := snds_len (acc ++ [(a, c)])
      rw [List.length_append, List.length_singleton] at hf hs
      have hbeg : begins x i = false := by
        unfold begins
        rw [hprev, decide_eq_true (show 0 < i by omega)]
        simp
      rw [quarryref03_Runs.l0, if_pos (by omega), refr_bit x hx i (by omega), Option.bind_some, e]
      cases hb : x.testBit i with
      | true =>
        have e1 : wrap64 ((i : Int) - 1) = ((i - 1 : Nat) : Int) := by
          unfold wrap64
          omega
        have e2 : wrap64 (((snds (acc ++ [(a, c)])).length : Int) - 1) = (acc.length : Int) := by
          rw [hs]
          unfold wrap64
          omega
        have e3 : wrap64 ((c : Int) + 1) = ((c + 1 : Nat) : Int) := by
          unfold wrap64
          omega
        have hr : runs x (m + 1) i = runs x m (i + 1) := by
          rw [runs, hbeg]
          rfl
        have hn := ih2 acc a (c + 1) (Nat.le_succ_of_le hl) (Nat.succ_le_succ hc) hb
        have hones : c + ones x (m + 1) i = c + 1 + ones x m (i + 1) := by
          rw [ones, if_pos hb]
          omega
        have hgoal : some (fsts (acc ++ (a, c + 1 + ones x m (i + 1)) :: runs x m (i + 1)), snds (acc ++ (a, c + 1 + ones x m (i + 1)) :: runs x m (i + 1))) = some (fsts (acc ++ (a, c + ones x (m + 1) i) :: runs x (m + 1) i), snds (acc ++ (a, c + ones x (m + 1) i) :: runs x (m + 1) i)) := by
          rw [hones, hr]
        refine Eq.trans ?_ hgoal
        clear hgoal hones hr
        rw [if_pos rfl, if_pos (by omega), e1, refr_bit x hx (i - 1) (by omega), Option.bind_some, hprev, if_pos rfl, e2, if_pos (by omega), if_pos (by omega), snds_rd, e3, Int.toNat_natCast, snds_set]
        have hfs : fsts (acc ++ [(a, c)]) = fsts (acc ++ [(a, c + 1)]) := by rw [fsts_app acc, fsts_app acc]; rfl
        rw [hfs]
        exact hn
      | false =>
        have hones : ones x (m + 1) i = 0 := by rw [ones, if_neg (by rw [hb]; decide)]
        rw [if_neg (by decide), runs, hbeg, if_neg (by decide), hones, Nat.add_zero]
        have := ih1 (acc ++ [(a, c)]) (by rw [List.length_append, List.length_singleton]; omega) (.inr (by rw [Nat.add_sub_cancel]; exact hb))
        rw [List.append_assoc, List.cons_append, List.nil_append] at this
        exact this
theorem refr_is (x : Nat) (hx : x < 18446744073709551616) : quarryref03_Runs.f 100 (x : Int) = some (fsts (runs x 64 0), snds (runs x 64 0)) := by
  have h := (refr_l0 x hx 64 0 100 (by decide) (by decide)).1 [] (Nat.le_refl _) (.inl rfl)
  rw [List.nil_append] at h
  have e1 : fsts [] = [] := rfl
  have e2 : snds [] = [] := rfl
  rw [e1, e2, show ((0 : Nat) : Int) = 0 from rfl] at h
  unfold quarryref03_Runs.f
  rw [h]
theorem runs_length (x : Nat) : ∀ n i, (runs x n i).length ≤ n
  | 0, _ => Nat.le_refl _
  | n + 1, i => by
    have := runs_length x n (i + 1)
    unfold runs
    split
    · rw [List.length_cons]
      omega
    · omega
theorem refr_calls (x : Nat) (hx : x < 18446744073709551616) (w : World) :
    Calls Tryd.prog 10 #[.int .u64 (x : Int)] w fun e w' => ∃ A A2 c c2, e = .returned (.tuple #[.slice A (runs x 64 0).length c, .slice A2 (runs x 64 0).length c2]) ∧ (runs x 64 0).length ≤ c ∧ (runs x 64 0).length ≤ c2 ∧
      ReadsOf (fun i : Int => Value.int .i64 i) 0 w' A (runs x 64 0).length (fsts (runs x 64 0)) ∧ ReadsOf (fun i : Int => Value.int .i64 i) 0 w' A2 (runs x 64 0).length (snds (runs x 64 0)) ∧ Below w.heap.size w w' := by
  refine (quarryref03_Runs.calls 100 (x : Int) _ _ w (refr_is x hx)).mono ?_
  rintro e w' ⟨v0, v1, rfl, hR, hR2, hb⟩
  obtain ⟨A, c, rfl, hc, hC⟩ := Kd.R_reads hR
  obtain ⟨A2, c2, rfl, hc2, hC2⟩ := Kd.R_reads hR2
  have h1 : ReadsOf (fun i : Int => Value.int .i64 i) 0 w' A (fsts (runs x 64 0)).length (fsts (runs x 64 0)) := Kd.reads_of_C hC
  have h2 : ReadsOf (fun i : Int => Value.int .i64 i) 0 w' A2 (snds (runs x 64 0)).length (snds (runs x 64 0)) := Kd.reads_of_C hC2
  rw [fsts_len] at h1 hc
  rw [snds_len] at h2 hc2
  rw [fsts_len, snds_len]
  exact ⟨A, A2, c, c2, rfl, hc, hc2, h1, h2, hb⟩
end Go.Proofs.YtjjnmpidlkjeiaaDoor
