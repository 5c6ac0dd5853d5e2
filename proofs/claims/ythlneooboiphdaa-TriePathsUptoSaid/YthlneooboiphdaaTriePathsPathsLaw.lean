/- Joined texts of one law. -/
import Derived.Test.YthlneooboiphdaaTriePathsTrieForm
import Derived.Test.YthlneooboiphdaaPTriePathsx5
import Derived.Test.YthlneooboiphdaaTriePathsRefForm
import Derived.Test.YthlneooboiphdaaPTriePathsx9
import Derived.Test.YthlneooboiphdaaPTriePathsx10
import Derived.Test.YthlneooboiphdaaPTriePathsx6
/- Paths of a trie: what the program answers. -/
set_option linter.unusedVariables false
set_option linter.unusedSimpArgs false
namespace Go.Proofs.Ythlneooboiphdaa.PTriePaths
open Go.RowKit Go.Proofs.Ythlneooboiphdaa Go.Proofs.YthlneooboiphdaaW.PrintWords Go.Proofs.YthlneooboiphdaaW.PrintLast Go.Proofs.YthlneooboiphdaaW.PrintMore
open Classical
theorem rd_get (l : List Int) (j : Nat) (h : j < l.length) : rd l (j : Int) = l[j] := by
  unfold rd
  rw [Int.toNat_natCast, List.getD_eq_getElem?_getD, List.getElem?_eq_getElem h]
  rfl
/-- What has been gone over: an element of it. -/
theorem proc_mem (g : S50 → List Int) (t : List S50) (i m a b : Nat) (ha : a < t.length) (hb : b < (g (rd_T50 t (a : Int))).length) (h : a < i ∨ (a = i ∧ b < m)) : rd (g (rd_T50 t (a : Int))) (b : Int) ∈ (t.take i).flatMap g ++ (g (rd_T50 t (i : Int))).take m := by
  rw [rd_get _ _ hb, List.mem_append]
  rcases h with h | ⟨rfl, h⟩
  · refine .inl (List.mem_flatMap.2 ⟨rd_T50 t (a : Int), ?_, List.getElem_mem hb⟩)
    rw [← rd_node t a ha]
    exact List.mem_take_iff_getElem.2 ⟨a, by omega, rfl⟩
  · exact .inr (List.mem_take_iff_getElem.2 ⟨b, by omega, rfl⟩)
/-- .. and it is whole. -/
theorem proc_cut (g : S50 → List Int) (t : List S50) (i m : Nat) (hi : i < t.length) (hm : m < (g (rd_T50 t (i : Int))).length) : ∃ r, t.flatMap g = ((t.take i).flatMap g ++ (g (rd_T50 t (i : Int))).take m) ++ rd (g (rd_T50 t (i : Int))) (m : Int) :: r := by
  refine ⟨(g (rd_T50 t (i : Int))).drop (m + 1) ++ (t.drop (i + 1)).flatMap g, ?_⟩
  have e : t = t.take i ++ (rd_T50 t (i : Int) :: t.drop (i + 1)) := by
    rw [← rd_node t i hi, ← List.drop_eq_getElem_cons hi, List.take_append_drop]
  have hB : g (rd_T50 t (i : Int)) = (g (rd_T50 t (i : Int))).take m ++ (g (rd_T50 t (i : Int)))[m] :: (g (rd_T50 t (i : Int))).drop (m + 1) := by
    rw [← List.drop_eq_getElem_cons hm, List.take_append_drop]
  have hT : t.flatMap g = (t.take i).flatMap g ++ (g (rd_T50 t (i : Int)) ++ (t.drop (i + 1)).flatMap g) := by
    have h2 := congrArg (fun z => List.flatMap g z) e
    simp only [List.flatMap_append, List.flatMap_cons] at h2
    exact h2
  rw [hT, rd_get _ _ hm]
  refine (congrArg (fun z => (t.take i).flatMap g ++ (z ++ (t.drop (i + 1)).flatMap g)) hB).trans ?_
  simp only [List.append_assoc, List.cons_append]
theorem proc_new (g : S50 → List Int) (t : List S50) (hn : (t.flatMap g).Nodup) (i m : Nat) (hi : i < t.length) (hm : m < (g (rd_T50 t (i : Int))).length) : rd (g (rd_T50 t (i : Int))) (m : Int) ∉ (t.take i).flatMap g ++ (g (rd_T50 t (i : Int))).take m := by
  obtain ⟨r, e⟩ := proc_cut g t i m hi hm
  rw [e] at hn
  intro h
  exact (List.nodup_append.1 hn).2.2 _ h _ List.mem_cons_self rfl
theorem rdL_set (x : List (List S53)) (v q : Int) (p : List S53) (h0 : 0 ≤ v) (h1 : v < x.length) (hq : 0 ≤ q) : rd_L3 (x.set v.toNat p) q = if q = v then p else rd_L3 x q := by
  unfold rd_L3
  rw [List.getD_eq_getElem?_getD, List.getElem?_set, List.getD_eq_getElem?_getD]
  by_cases e : q = v
  · subst e
    rw [if_pos rfl, if_pos (by omega), if_pos rfl]
    rfl
  · rw [if_neg (by omega), if_neg e]
/-- What the paths of the nodes gone over are. -/
def PInv (t : List S50) (x : List (List S53)) (i m : Nat) : Prop :=
  x.length = t.length ∧ (∀ q : Int, 0 ≤ q → (rd_L3 x q).length ≤ q.toNat) ∧
  ∀ a b : Nat, a < t.length → b < (rd_T50 t (a : Int)).f1.length → (a < i ∨ (a = i ∧ b < m)) → rd_L3 x (rd (rd_T50 t (a : Int)).f1 (b : Int)) = rd_L3 x (a : Int) ++ [rd_T53 (rd_T50 t (a : Int)).f0 (b : Int)]
def OInv (t : List S50) (p x : List (List S53)) (i m : Nat) : Prop :=
  x.length = (endS t t.length).length ∧ 
  ∀ a b : Nat, a < t.length → b < (rd_T50 t (a : Int)).f2.length → (a < i ∨ (a = i ∧ b < m)) → rd_L3 x (rd (rd_T50 t (a : Int)).f2 (b : Int)) = rd_L3 p (a : Int)
theorem or_step {a i b m : Nat} (hc : a < i ∨ (a = i ∧ b < m + 1)) (h2 : ¬ (a < i ∨ (a = i ∧ b < m))) : a = i ∧ b = m := by omega
theorem or_step2 {a i b m : Nat} (hc : a < i ∨ (a = i ∧ b < m + 1)) (h2 : ¬ (a = i ∧ b = m)) : a < i ∨ (a = i ∧ b < m) := by omega
theorem PInv.next {t : List S50} {x : List (List S53)} {i : Nat} (h : PInv t x i (rd_T50 t (i : Int)).f1.length) : PInv t x (i + 1) 0 :=
  ⟨h.1, h.2.1, fun a b ha hb hc => h.2.2 a b ha hb (by
    by_cases e : a = i
    · subst e; exact .inr ⟨rfl, hb⟩
    · omega)⟩
theorem OInv.next {t : List S50} {p x : List (List S53)} {i : Nat} (h : OInv t p x i (rd_T50 t (i : Int)).f2.length) : OInv t p x (i + 1) 0 :=
  ⟨h.1, fun a b ha hb hc => h.2 a b ha hb (by
    by_cases e : a = i
    · subst e; exact .inr ⟨rfl, hb⟩
    · omega)⟩
/-- The paths by their nodes, and by their numbers. -/
def PathsR (t : List S50) (p O : List (List S53)) : Prop := PInv t p t.length 0 ∧ OInv t p O t.length 0
section
variable (t : List S50) (hs : SmallT t) (hF : FormedQ t)
include hs hF
omit hs in
theorem ends_range (i m : Nat) (hi : i < t.length) (hm : m < (rd_T50 t (i : Int)).f2.length) : 0 ≤ rd (rd_T50 t (i : Int)).f2 (m : Int) ∧ rd (rd_T50 t (i : Int)).f2 (m : Int) < (endS t t.length).length := by
  have h1 : rd (rd_T50 t (i : Int)).f2 (m : Int) ∈ endS t t.length := by
    have := proc_mem (fun x => x.f2) t t.length 0 i m hi hm (.inl hi)
    rw [List.take_zero, List.append_nil] at this
    exact this
  have h2 := sorted_iota hF.2.2.2.2.2
  have h3 := (sorted_perm (endS t t.length)).mem_iff.2 h1
  rw [h2] at h3
  exact mem_iota.1 h3
omit hs in
theorem ends_nodup : (t.flatMap (fun x => x.f2)).Nodup := by
  have h2 := sorted_iota hF.2.2.2.2.2
  have h3 : (endS t t.length).Nodup := (sorted_perm (endS t t.length)).nodup_iff.1 (by rw [h2]; exact iota_nodup _)
  unfold endS at h3
  rw [List.take_length] at h3
  exact h3
omit hs in
theorem to_nodup : (t.flatMap (fun x => x.f1)).Nodup := by
  have h3 := hF.2.2.2.1
  unfold toS at h3
  rw [List.take_length] at h3
  exact h3
theorem l3_go (p : List (List S53)) (hp : PInv t p t.length 0) (i : Nat) (hi : i < t.length) (R : (List (List S53)) × Int)
    (next : ∀ x, OInv t p x (i + 1) 0 → ∃ O, PathsR t p O ∧ Evt (fun k => trie_Paths.l2 k p x t t.length ((i + 1 : Nat) : Int)) (O, 0)) :
    ∀ (d m : Nat) (x : List (List S53)), (rd_T50 t (i : Int)).f2.length = m + d → OInv t p x i m → ∃ O, PathsR t p O ∧ Evt (fun k => trie_Paths.l3 k p x i t t.length i (rd_T50 t (i : Int)).f2 (rd_T50 t (i : Int)).f2.length m) (O, 0) := by
  have h0 := hs.1
  have hx := hs.2.1 _ (node_mem t (i : Int) (by omega) (by omega))
  have hx2 := hx.2.2.1
  have hwi : wrap64 ((i : Int) + 1) = ((i + 1 : Nat) : Int) := by rw [w64_ (by omega) (by omega)]; omega
  intro d
  induction d with
  | zero =>
    intro m x hm ho
    have hml : ¬ ((m : Nat) : Int) < (((rd_T50 t (i : Int)).f2.length : Nat) : Int) := by omega
    rw [show m = (rd_T50 t (i : Int)).f2.length by omega] at ho
    obtain ⟨O, a, b⟩ := next x ho.next
    exact ⟨O, a, Evt.step _ (fun k => by rw [trie_Paths.l3, if_neg hml, hwi]) b⟩
  | succ d ih =>
    intro m x hm ho
    have hml : ((m : Nat) : Int) < (((rd_T50 t (i : Int)).f2.length : Nat) : Int) := by omega
    have q0 : (0 : Int) ≤ (m : Int) := by omega
    have p0 : (0 : Int) ≤ (i : Int) := by omega
    have p1 : (i : Int) < (p.length : Int) := by rw [hp.1]; omega
    have hw : wrap64 ((m : Int) + 1) = ((m + 1 : Nat) : Int) := by rw [w64_ (by omega) (by omega)]; omega
    obtain ⟨v0, v1⟩ := ends_range t hF i m hi (by omega)
    have v2 : rd (rd_T50 t (i : Int)).f2 (m : Int) < (x.length : Int) := by rw [ho.1]; exact v1
    have hcl : slices_Clone.f (rd_L3 p (i : Int)) = some (rd_L3 p (i : Int)) := by
      unfold slices_Clone.f
      have := hp.2.1 (i : Int) p0
      rw [if_pos (by omega)]
    have hnew : rd (rd_T50 t (i : Int)).f2 (m : Int) ∉ (t.take i).flatMap (fun x => x.f2) ++ (rd_T50 t (i : Int)).f2.take m := proc_new (fun x => x.f2) t (ends_nodup t hF) i m hi (show m < (rd_T50 t (i : Int)).f2.length by omega)
    obtain ⟨O, a, b⟩ := ih (m + 1) (x.set (rd (rd_T50 t (i : Int)).f2 (m : Int)).toNat (rd_L3 p (i : Int))) (by omega) ⟨by rw [List.length_set]; exact ho.1, fun a b ha hb hc => by
      have hr := ends_range t hF a b ha hb
      rw [rdL_set _ _ _ _ v0 v2 hr.1]
      by_cases e : rd (rd_T50 t (a : Int)).f2 (b : Int) = rd (rd_T50 t (i : Int)).f2 (m : Int)
      · rw [if_pos e]
        by_cases hc2 : a < i ∨ (a = i ∧ b < m)
        · have this : rd (rd_T50 t (a : Int)).f2 (b : Int) ∈ (t.take i).flatMap (fun x => x.f2) ++ (rd_T50 t (i : Int)).f2.take m := proc_mem (fun x => x.f2) t i m a b ha hb hc2
          rw [e] at this
          exact absurd this hnew
        · rw [(or_step hc hc2).1]
      · rw [if_neg e]
        refine ho.2 a b ha hb ?_
        by_cases hc2 : a = i ∧ b = m
        · exact absurd (by rw [hc2.1, hc2.2]) e
        · exact or_step2 hc hc2⟩
    exact ⟨O, a, Evt.step _ (fun k => by rw [trie_Paths.l3, if_pos hml, if_pos q0, if_pos hml, if_pos p0, if_pos p1, hcl, Option.bind_some, if_pos v0, if_pos v2, hw]) b⟩
theorem l2p_go (p : List (List S53)) (hp : PInv t p t.length 0) : ∀ (d i : Nat) (x : List (List S53)), t.length = i + d → OInv t p x i 0 → ∃ O, PathsR t p O ∧ Evt (fun k => trie_Paths.l2 k p x t t.length i) (O, 0) := by
  intro d
  induction d with
  | zero =>
    intro i x hi ho
    have e : i = t.length := by omega
    subst e
    have hil : ¬ ((t.length : Nat) : Int) < ((t.length : Nat) : Int) := by omega
    exact ⟨x, ⟨hp, ho⟩, Evt.done (fun k => by rw [trie_Paths.l2, if_neg hil])⟩
  | succ d ih =>
    intro i x hi ho
    have hil : ((i : Nat) : Int) < ((t.length : Nat) : Int) := by omega
    have p0 : (0 : Int) ≤ (i : Int) := by omega
    obtain ⟨O, a, b⟩ := l3_go t hs hF p hp i (by omega) (x, 0) (fun y hy => ih (i + 1) y (by omega) hy) (rd_T50 t (i : Int)).f2.length 0 x (by omega) ho
    exact ⟨O, a, Evt.step _ (fun k => by rw [trie_Paths.l2, if_pos hil, if_pos p0, if_pos hil]; rfl) b⟩
theorem l1p_go (i : Nat) (hi : i < t.length)
    (next : ∀ x, PInv t x (i + 1) 0 → ∃ p O, PathsR t p O ∧ Evt (fun k => trie_Paths.l0 k t x ((endS t (i + 1)).length : Nat) t t.length ((i + 1 : Nat) : Int)) (O, 0)) :
    ∀ (d m : Nat) (x : List (List S53)), (rd_T50 t (i : Int)).f1.length = m + d → PInv t x i m → ∃ p O, PathsR t p O ∧ Evt (fun k => trie_Paths.l1 k t x ((endS t i).length : Nat) i t t.length i (rd_T50 t (i : Int)).f1 (rd_T50 t (i : Int)).f1.length m (rd_T50 t (i : Int)).f0 (rd_T50 t (i : Int)).f1 (rd_T50 t (i : Int)).f2) (O, 0) := by
  have h0 := hs.1
  have hx := hs.2.1 _ (node_mem t (i : Int) (by omega) (by omega))
  have hx2 := hx.2.1
  have hN := hF.2.2.1 (i : Int) (by omega) (by omega)
  have hle := endS_le t (i + 1)
  have hE := hs.2.2.1
  have hl : (endS t (i + 1)).length = (endS t i).length + (rd_T50 t (i : Int)).f2.length := by rw [endS_succ t i (by omega), List.length_append]
  have hwi : wrap64 ((i : Int) + 1) = ((i + 1 : Nat) : Int) := by rw [w64_ (by omega) (by omega)]; omega
  have hwe : wrap64 ((((endS t i).length : Nat) : Int) + (((rd_T50 t (i : Int)).f2.length : Nat) : Int)) = (((endS t (i + 1)).length : Nat) : Int) := by rw [w64_ (by omega) (by omega)]; omega
  intro d
  induction d with
  | zero =>
    intro m x hm ho
    have hml : ¬ ((m : Nat) : Int) < (((rd_T50 t (i : Int)).f1.length : Nat) : Int) := by omega
    rw [show m = (rd_T50 t (i : Int)).f1.length by omega] at ho
    obtain ⟨p, O, a, b⟩ := next x ho.next
    exact ⟨p, O, a, Evt.step _ (fun k => by rw [trie_Paths.l1, if_neg hml, hwi, hwe]) b⟩
  | succ d ih =>
    intro m x hm ho
    have hml : ((m : Nat) : Int) < (((rd_T50 t (i : Int)).f1.length : Nat) : Int) := by omega
    have hml0 : ((m : Nat) : Int) < (((rd_T50 t (i : Int)).f0.length : Nat) : Int) := by have := hN.1; omega
    have q0 : (0 : Int) ≤ (m : Int) := by omega
    have p0 : (0 : Int) ≤ (i : Int) := by omega
    have p1 : (i : Int) < (x.length : Int) := by rw [ho.1]; omega
    have hw : wrap64 ((m : Int) + 1) = ((m + 1 : Nat) : Int) := by rw [w64_ (by omega) (by omega)]; omega
    have hst := hN.2.2.2 (m : Int) q0 hml0
    have s1 := hst.1
    have s2 := hst.2.1
    have v0 : 0 ≤ rd (rd_T50 t (i : Int)).f1 (m : Int) := by omega
    have v2 : rd (rd_T50 t (i : Int)).f1 (m : Int) < (x.length : Int) := by rw [ho.1]; exact s2
    have hlen := ho.2.1 (i : Int) p0
    have hcl : slices_Clone.f (rd_L3 x (i : Int)) = some (rd_L3 x (i : Int)) := by
      unfold slices_Clone.f
      rw [if_pos (by omega)]
    have hnew : rd (rd_T50 t (i : Int)).f1 (m : Int) ∉ (t.take i).flatMap (fun x => x.f1) ++ (rd_T50 t (i : Int)).f1.take m := proc_new (fun x => x.f1) t (to_nodup t hF) i m hi (show m < (rd_T50 t (i : Int)).f1.length by omega)
    obtain ⟨p, O, a, b⟩ := ih (m + 1) (x.set (rd (rd_T50 t (i : Int)).f1 (m : Int)).toNat (rd_L3 x (i : Int) ++ [rd_T53 (rd_T50 t (i : Int)).f0 (m : Int)])) (by omega) ⟨by rw [List.length_set]; exact ho.1, fun q hq => by
        rw [rdL_set _ _ _ _ v0 v2 hq]
        by_cases e : q = rd (rd_T50 t (i : Int)).f1 (m : Int)
        · rw [if_pos e, List.length_append, List.length_singleton]
          omega
        · rw [if_neg e]
          exact ho.2.1 q hq, fun a b ha hb hc => by
      have hNa := hF.2.2.1 (a : Int) (by omega) (by omega)
      have hsa := hNa.2.2.2 (b : Int) (by omega) (by have := hNa.1; omega)
      have sa1 := hsa.1
      have hai : a ≤ i := by omega
      have r1 : 0 ≤ rd (rd_T50 t (a : Int)).f1 (b : Int) := by omega
      have r2 : (0 : Int) ≤ (a : Int) := Int.natCast_nonneg a
      have r3 : ¬ (a : Int) = rd (rd_T50 t (i : Int)).f1 (m : Int) := by omega
      rw [rdL_set x _ _ _ v0 v2 r1, rdL_set x _ (a : Int) _ v0 v2 r2, if_neg r3]
      by_cases e : rd (rd_T50 t (a : Int)).f1 (b : Int) = rd (rd_T50 t (i : Int)).f1 (m : Int)
      · rw [if_pos e]
        by_cases hc2 : a < i ∨ (a = i ∧ b < m)
        · have this : rd (rd_T50 t (a : Int)).f1 (b : Int) ∈ (t.take i).flatMap (fun x => x.f1) ++ (rd_T50 t (i : Int)).f1.take m := proc_mem (fun x => x.f1) t i m a b ha hb hc2
          rw [e] at this
          exact absurd this hnew
        · obtain ⟨e1, e2⟩ := or_step hc hc2
          rw [e1, e2]
      · rw [if_neg e]
        refine ho.2.2 a b ha hb ?_
        by_cases hc2 : a = i ∧ b = m
        · exact absurd (by rw [hc2.1, hc2.2]) e
        · exact or_step2 hc hc2⟩
    have p3 : (rd_L3 x (i : Int)).length + [(⟨(rd_T53 (rd_T50 t (i : Int)).f0 (m : Int)).f0, (rd_T53 (rd_T50 t (i : Int)).f0 (m : Int)).f1, (rd_T53 (rd_T50 t (i : Int)).f0 (m : Int)).f2⟩ : S53)].length < 4398046511104 := by
      show _ + 1 < _
      omega
    exact ⟨p, O, a, Evt.step _ (fun k => by rw [trie_Paths.l1, if_pos hml, if_pos q0, if_pos hml, if_pos p0, if_pos p1, hcl, Option.bind_some, if_pos hml0, Option.bind_some, if_pos p3, if_pos v0, if_pos v2, hw]) b⟩
theorem l0p_go : ∀ (d i : Nat) (x : List (List S53)), t.length = i + d → PInv t x i 0 → ∃ p O, PathsR t p O ∧ Evt (fun k => trie_Paths.l0 k t x ((endS t i).length : Nat) t t.length i) (O, 0) := by
  have hE := hs.2.2.1
  intro d
  induction d with
  | zero =>
    intro i x hi ho
    have e : i = t.length := by omega
    subst e
    have hil : ¬ ((t.length : Nat) : Int) < ((t.length : Nat) : Int) := by omega
    have p0 : (0 : Int) ≤ (((endS t t.length).length : Nat) : Int) := by omega
    have p1 : ((((endS t t.length).length : Nat) : Int) : Int).toNat ≤ 11728124029610 := by omega
    obtain ⟨O, a, b⟩ := l2p_go t hs hF x ho t.length 0 (List.replicate (endS t t.length).length []) (by omega) ⟨List.length_replicate, fun a b ha hb hc => by omega⟩
    exact ⟨x, O, a, Evt.step _ (fun k => by rw [trie_Paths.l0, if_neg hil, if_pos p0, if_pos p1, Int.toNat_natCast]; rfl) b⟩
  | succ d ih =>
    intro i x hi ho
    have hil : ((i : Nat) : Int) < ((t.length : Nat) : Int) := by omega
    have p0 : (0 : Int) ≤ (i : Int) := by omega
    obtain ⟨p, O, a, b⟩ := l1p_go t hs hF i (by omega) (fun y hy => ih (i + 1) y (by omega) hy) (rd_T50 t (i : Int)).f1.length 0 x (by omega) ho
    exact ⟨p, O, a, Evt.step _ (fun k => by rw [trie_Paths.l0, if_pos hil, if_pos p0, if_pos hil]; rfl) b⟩
theorem paths_formed : ∃ p O, PathsR t p O ∧ Evt (fun k => trie_Paths.f k t) (O, 0) := by
  have h0 := hs.1
  have hf := trieFormed_evt t hs
  rw [decide_eq_true hF] at hf
  have p0 : (0 : Int) ≤ (t.length : Int) := by omega
  have p1 : ((t.length : Int) : Int).toNat ≤ 11728124029610 := by omega
  obtain ⟨p, O, a, b⟩ := l0p_go t hs hF t.length 0 (List.replicate t.length []) (by omega) ⟨List.length_replicate, fun q hq => by
    unfold rd_L3
    rw [List.getD_eq_getElem?_getD, List.getElem?_replicate]
    split <;> exact Nat.zero_le _, fun a b ha hb hc => by omega⟩
  exact ⟨p, O, a, Evt.eq _ (fun k => by rw [trie_Paths.f]) (Evt.bind hf (Evt.eq _ (fun k => by rw [if_pos rfl, if_pos p0, if_pos p1, Int.toNat_natCast]; rfl) b))⟩
end
theorem paths_unformed (t : List S50) (hs : SmallT t) (hF : ¬ FormedQ t) : Evt (fun k => trie_Paths.f k t) ([], 1) := by
  have hf := trieFormed_evt t hs
  rw [decide_eq_false hF] at hf
  exact Evt.eq _ (fun k => by rw [trie_Paths.f]) (Evt.bind hf (Evt.eq _ (fun k => by rw [if_neg (by decide)]) Evt.const))
end Go.Proofs.Ythlneooboiphdaa.PTriePaths

/- Paths of a trie: what the document answers: the same. -/
set_option linter.unusedVariables false
set_option linter.unusedSimpArgs false
namespace Go.Proofs.Ythlneooboiphdaa.PTriePaths
open Go.RowKit Go.Proofs.Ythlneooboiphdaa Go.Proofs.YthlneooboiphdaaW.PrintWords Go.Proofs.YthlneooboiphdaaW.PrintLast Go.Proofs.YthlneooboiphdaaW.PrintMore
open Classical
theorem hasInt_evt (l : List Int) (v : Int) (hl : l.length ≤ 4611686018427387904) : Evt (fun k => quarryref00_HasInt.f k l v) (decide (v ∈ l)) := by
  have key : ∀ (d j : Nat), l.length = j + d → v ∉ l.take j → Evt (fun k => quarryref00_HasInt.l0 k l v j) (decide (v ∈ l)) := by
    intro d
    induction d with
    | zero =>
      intro j hj hn
      have hjl : ¬ ((j : Nat) : Int) < ((l.length : Nat) : Int) := by omega
      rw [List.take_of_length_le (by omega)] at hn
      rw [decide_eq_false hn]
      exact Evt.done (fun k => by rw [quarryref00_HasInt.l0, if_neg hjl])
    | succ d ih =>
      intro j hj hn
      have hjl : ((j : Nat) : Int) < ((l.length : Nat) : Int) := by omega
      have q0 : (0 : Int) ≤ (j : Int) := by omega
      have hw : wrap64 ((j : Int) + 1) = ((j + 1 : Nat) : Int) := by rw [w64_ (by omega) (by omega)]; omega
      have hget := rd_get l j (by omega)
      by_cases c : rd l (j : Int) = v
      · rw [decide_eq_true (show v ∈ l by rw [← c, hget]; exact List.getElem_mem _)]
        exact Evt.done (fun k => by rw [quarryref00_HasInt.l0, if_pos hjl, if_pos q0, if_pos c])
      · refine Evt.step _ (fun k => by rw [quarryref00_HasInt.l0, if_pos hjl, if_pos q0, if_neg c, hw]) (ih (j + 1) (by omega) ?_)
        rw [List.take_succ_eq_append_getElem (by omega), List.mem_append, List.mem_singleton, ← hget]
        exact fun h => h.elim hn (fun h => c h.symm)
  exact key l.length 0 (by omega) (by simp)
section
variable (t : List S50) (hs : SmallT t) (hF : FormedQ t) (p O : List (List S53)) (hP : PathsR t p O)
include hs hF hP
theorem pathOf_evt : ∀ (i : Nat), i < t.length → Evt (fun k => quarryref23_pathOf.f k t i) (rd_L3 p (i : Int)) := by
  intro i
  induction i using Nat.strongRecOn with
  | _ i IH =>
  intro hi
  have h0 := hs.1
  have hend : (∀ a b : Nat, a < t.length → b < (rd_T50 t (a : Int)).f1.length → a < i → rd (rd_T50 t (a : Int)).f1 (b : Int) ≠ (i : Int)) → rd_L3 p (i : Int) = [] := by
    intro hno
    rcases Nat.eq_zero_or_pos i with rfl | hpos
    · have := hP.1.2.1 0 (by decide)
      exact List.length_eq_zero_iff.1 (by simpa using this)
    · have hm := hF.2.2.2.2.1 (i : Int) (by omega) (by omega)
      unfold toS at hm
      rw [List.take_length, List.mem_flatMap] at hm
      obtain ⟨x, hx, hv⟩ := hm
      obtain ⟨a, ha, rfl⟩ := List.getElem_of_mem hx
      rw [rd_node t a ha] at hv
      obtain ⟨b, hb, e⟩ := List.getElem_of_mem hv
      have hr : rd (rd_T50 t (a : Int)).f1 (b : Int) = (i : Int) := (rd_get _ b hb).trans e
      have hN := hF.2.2.1 (a : Int) (by omega) (by omega)
      have hst := (hN.2.2.2 (b : Int) (by omega) (by have := hN.1; omega)).1
      exact absurd hr (hno a b ha hb (by omega))
  have inner : ∀ (da a : Nat), i = a + da → (∀ a' b : Nat, a' < t.length → b < (rd_T50 t (a' : Int)).f1.length → a' < a → rd (rd_T50 t (a' : Int)).f1 (b : Int) ≠ (i : Int)) → Evt (fun k => quarryref23_pathOf.l0 k t i a) (rd_L3 p (i : Int)) := by
    intro da
    induction da with
    | zero =>
      intro a ha hno
      have e : a = i := by omega
      subst e
      rw [hend hno]
      exact Evt.done (fun k => by rw [quarryref23_pathOf.l0, if_neg (by omega)])
    | succ da iha =>
      intro a ha hno
      have hai : (a : Int) < (i : Int) := by omega
      have p0 : (0 : Int) ≤ (a : Int) := by omega
      have p1 : (a : Int) < (t.length : Int) := by omega
      have hx := hs.2.1 _ (node_mem t (a : Int) p0 p1)
      have hx1 := hx.2.1
      have hN := hF.2.2.1 (a : Int) p0 p1
      have hwa : wrap64 ((a : Int) + 1) = ((a + 1 : Nat) : Int) := by rw [w64_ (by omega) (by omega)]; omega
      have innerj : ∀ (d j : Nat), (rd_T50 t (a : Int)).f1.length = j + d → (∀ b : Nat, b < j → rd (rd_T50 t (a : Int)).f1 (b : Int) ≠ (i : Int)) → Evt (fun k => quarryref23_pathOf.l1 k t i a j) (rd_L3 p (i : Int)) := by
        intro d
        induction d with
        | zero =>
          intro j hj hb
          have hjl : ¬ ((j : Nat) : Int) < (((rd_T50 t (a : Int)).f1.length : Nat) : Int) := by omega
          refine Evt.step _ (fun k => by rw [quarryref23_pathOf.l1, if_pos p0, if_pos p1, if_neg hjl, hwa]) (iha (a + 1) (by omega) (fun a' b ha' hb' hc => ?_))
          by_cases e : a' = a
          · subst e
            exact hb b (by omega)
          · exact hno a' b ha' hb' (by omega)
        | succ d ih =>
          intro j hj hb
          have hjl : ((j : Nat) : Int) < (((rd_T50 t (a : Int)).f1.length : Nat) : Int) := by omega
          have hjl0 : ((j : Nat) : Int) < (((rd_T50 t (a : Int)).f0.length : Nat) : Int) := by have := hN.1; omega
          have q0 : (0 : Int) ≤ (j : Int) := by omega
          have hw : wrap64 ((j : Int) + 1) = ((j + 1 : Nat) : Int) := by rw [w64_ (by omega) (by omega)]; omega
          by_cases c : rd (rd_T50 t (a : Int)).f1 (j : Int) = (i : Int)
          · have hpa := hP.1.2.2 a j (by omega) (by omega) (.inl (by omega))
            rw [c] at hpa
            rw [hpa]
            have hlen := hP.1.2.1 (a : Int) p0
            have ihA := IH a (by omega) (by omega)
            have p3 : (rd_L3 p (a : Int)).length + [(⟨(rd_T53 (rd_T50 t (a : Int)).f0 (j : Int)).f0, (rd_T53 (rd_T50 t (a : Int)).f0 (j : Int)).f1, (rd_T53 (rd_T50 t (a : Int)).f0 (j : Int)).f2⟩ : S53)].length < 4398046511104 := by
              show _ + 1 < _
              omega
            refine Evt.step _ (fun k => by rw [quarryref23_pathOf.l1, if_pos p0, if_pos p1, if_pos hjl, if_pos q0, if_pos c]) (Evt.bind ihA (Evt.eq _ (fun k => by rw [if_pos hjl0, Option.bind_some, if_pos p3]) Evt.const))
          · refine Evt.step _ (fun k => by rw [quarryref23_pathOf.l1, if_pos p0, if_pos p1, if_pos hjl, if_pos q0, if_neg c, hw]) (ih (j + 1) (by omega) (fun b hb2 => ?_))
            by_cases e : b = j
            · subst e
              exact c
            · exact hb b (by omega)
      exact Evt.step _ (fun k => by rw [quarryref23_pathOf.l0, if_pos hai]; rfl) (innerj (rd_T50 t (a : Int)).f1.length 0 (by omega) (fun b hb => by omega))
  exact Evt.step _ (fun k => by rw [quarryref23_pathOf.f]; rfl) (inner i 0 (by omega) (fun a' b _ _ h => by omega))
theorem paths_len (i : Int) (h0 : 0 ≤ i) (h1 : i < O.length) : (rd_L3 O i).length ≤ 4611686018427387904 := by
  have hT := hs.1
  have hin : i ∈ endS t t.length := by
    refine (sorted_perm (endS t t.length)).mem_iff.1 ?_
    rw [sorted_iota hF.2.2.2.2.2]
    exact mem_iota.2 ⟨h0, by rw [← hP.2.1]; exact h1⟩
  unfold endS at hin
  rw [List.take_length, List.mem_flatMap] at hin
  obtain ⟨x, hx, hv⟩ := hin
  obtain ⟨a, ha, rfl⟩ := List.getElem_of_mem hx
  rw [rd_node t a ha] at hv
  obtain ⟨b, hb, e⟩ := List.getElem_of_mem hv
  have hO := hP.2.2 a b ha hb (.inl ha)
  rw [rd_get _ _ hb, e] at hO
  rw [hO]
  have := hP.1.2.1 (a : Int) (by omega)
  omega
theorem refl1_go (kk : Nat) (hk : kk < (endS t t.length).length) (R : (List (List S53)) × Int) (next : Evt (fun k => quarryref23_Paths.l0 k t (O.take (kk + 1)) ((kk + 1 : Nat) : Int)) R) :
    ∀ (d i : Nat), t.length = i + d → Evt (fun k => quarryref23_Paths.l1 k t (if (kk : Int) ∈ endS t i then O.take (kk + 1) else O.take kk) kk i) R := by
  have h0 := hs.1
  have hE := hs.2.2.1
  have hOl := hP.2.1
  have hwk : wrap64 ((kk : Int) + 1) = ((kk + 1 : Nat) : Int) := by rw [w64_ (by omega) (by omega)]; omega
  intro d
  induction d with
  | zero =>
    intro i hi
    have e : i = t.length := by omega
    subst e
    have hil : ¬ ((t.length : Nat) : Int) < ((t.length : Nat) : Int) := by omega
    have hin : (kk : Int) ∈ endS t t.length := by
      refine (sorted_perm (endS t t.length)).mem_iff.1 ?_
      rw [sorted_iota hF.2.2.2.2.2]
      exact mem_iota.2 ⟨by omega, by omega⟩
    rw [if_pos hin]
    exact Evt.step _ (fun k => by rw [quarryref23_Paths.l1, if_neg hil, hwk]) next
  | succ d ih =>
    intro i hi
    have hil : ((i : Nat) : Int) < ((t.length : Nat) : Int) := by omega
    have p0 : (0 : Int) ≤ (i : Int) := by omega
    have hwi : wrap64 ((i : Int) + 1) = ((i + 1 : Nat) : Int) := by rw [w64_ (by omega) (by omega)]; omega
    have hx := hs.2.1 _ (node_mem t (i : Int) p0 hil)
    have hx2 := hx.2.2.1
    have hh := hasInt_evt (rd_T50 t (i : Int)).f2 (kk : Int) (by omega)
    have ih1 := ih (i + 1) (by omega)
    have hsucc := endS_succ t i (by omega)
    refine Evt.step _ (fun k => by rw [quarryref23_Paths.l1, if_pos hil, if_pos p0]) (Evt.bind hh ?_)
    by_cases c : (kk : Int) ∈ (rd_T50 t (i : Int)).f2
    · rw [decide_eq_true c]
      have hin : (kk : Int) ∈ endS t (i + 1) := by rw [hsucc]; exact List.mem_append.2 (.inr c)
      have hnot : (kk : Int) ∉ endS t i := by
        intro hc
        obtain ⟨b, hb, e⟩ := List.getElem_of_mem c
        have hnew := proc_new (fun x => x.f2) t (ends_nodup t hF) i b (by omega) hb
        refine hnew (List.mem_append.2 (.inl ?_))
        show rd _ _ ∈ endS t i
        rw [rd_get _ _ hb, e]
        exact hc
      rw [if_pos hin] at ih1
      rw [if_neg hnot]
      obtain ⟨b, hb, e⟩ := List.getElem_of_mem c
      have hO := hP.2.2 i b (by omega) hb (.inl (by omega))
      rw [rd_get _ _ hb, e] at hO
      have hk2 : kk < O.length := by rw [hOl]; exact hk
      have hOk : O[kk] = rd_L3 p (i : Int) := by
        rw [← hO]
        unfold rd_L3
        rw [Int.toNat_natCast, List.getD_eq_getElem?_getD, List.getElem?_eq_getElem hk2]
        rfl
      rw [List.take_succ_eq_append_getElem hk2, hOk] at ih1
      have p3 : (O.take kk).length < 5864062014805 := by rw [List.length_take]; omega
      refine Evt.eq _ (fun k => by rw [if_pos rfl]) (Evt.bind (pathOf_evt t hs hF p O hP i (by omega)) ?_)
      exact Evt.eq _ (fun k => by rw [if_pos p3, hwi]) ih1
    · rw [decide_eq_false c]
      have hiff : (kk : Int) ∈ endS t (i + 1) ↔ (kk : Int) ∈ endS t i := by
        rw [hsucc, List.mem_append]
        exact ⟨fun h => h.resolve_right c, .inl⟩
      by_cases cin : (kk : Int) ∈ endS t i
      · rw [if_pos (hiff.2 cin)] at ih1
        rw [if_pos cin]
        exact Evt.eq _ (fun k => by rw [if_neg (by decide), hwi]) ih1
      · rw [if_neg (fun h => cin (hiff.1 h))] at ih1
        rw [if_neg cin]
        exact Evt.eq _ (fun k => by rw [if_neg (by decide), hwi]) ih1
theorem refl0_go : ∀ (d kk : Nat), (endS t t.length).length = kk + d → Evt (fun k => quarryref23_Paths.l0 k t (O.take kk) kk) (O, 0) := by
  have hcnt := count_evt t hs
  have hOl := hP.2.1
  intro d
  induction d with
  | zero =>
    intro kk hk
    rw [List.take_of_length_le (by omega)]
    exact Evt.step _ (fun k => by rw [quarryref23_Paths.l0]) (Evt.bind hcnt (Evt.eq _ (fun k => by rw [if_neg (show ¬ ((kk : Nat) : Int) < (((endS t t.length).length : Nat) : Int) by omega)]) Evt.const))
  | succ d ih =>
    intro kk hk
    have h1 := refl1_go t hs hF p O hP kk (by omega) _ (ih (kk + 1) (by omega)) t.length 0 (by omega)
    rw [if_neg (show (kk : Int) ∉ endS t 0 from fun h => by cases h)] at h1
    exact Evt.step _ (fun k => by rw [quarryref23_Paths.l0]) (Evt.bind hcnt (Evt.eq _ (fun k => by rw [if_pos (show ((kk : Nat) : Int) < (((endS t t.length).length : Nat) : Int) by omega)]; rfl) h1))
theorem refPaths_formed : Evt (fun k => quarryref23_Paths.f k t) (O, 0) := by
  have hf := refFormed_evt t hs
  rw [decide_eq_true hF] at hf
  exact Evt.eq _ (fun k => by rw [quarryref23_Paths.f]) (Evt.bind hf (Evt.eq _ (fun k => by rw [if_pos rfl]; rfl) (refl0_go t hs hF p O hP (endS t t.length).length 0 (by omega))))
end
theorem refPaths_unformed (t : List S50) (hs : SmallT t) (hF : ¬ FormedQ t) : Evt (fun k => quarryref23_Paths.f k t) ([], 1) := by
  have hf := refFormed_evt t hs
  rw [decide_eq_false hF] at hf
  exact Evt.eq _ (fun k => by rw [quarryref23_Paths.f]) (Evt.bind hf (Evt.eq _ (fun k => by rw [if_neg (by decide)]) Evt.const))
end Go.Proofs.Ythlneooboiphdaa.PTriePaths

/- TriePaths: what the law computes is true. -/
set_option linter.unusedVariables false
set_option linter.unusedSimpArgs false
namespace Go.Proofs.Ythlneooboiphdaa.PTriePaths
open Go.RowKit Go.Proofs.Ythlneooboiphdaa Go.Proofs.YthlneooboiphdaaW.PrintWords Go.Proofs.YthlneooboiphdaaW.PrintLast Go.Proofs.YthlneooboiphdaaW.PrintMore
open Classical
theorem vast_evt (t : List S50) (hT : t.length ≤ 1073741824) : ∃ b, Evt (fun k => quarrylaw23_vast.f k t) b := by
  have key : ∀ (d : Nat) (x i : Int), 0 ≤ i → (t.length : Int) ≤ i + d → ∃ b, Evt (fun k => quarrylaw23_vast.l0 k t x i) b := by
    intro d
    induction d with
    | zero =>
      intro x i h0 h1
      have hi : ¬ i < (t.length : Int) := by omega
      exact ⟨_, Evt.done (fun k => by rw [quarrylaw23_vast.l0, if_neg hi])⟩
    | succ d ih =>
      intro x i h0 h1
      by_cases hi : i < (t.length : Int)
      · by_cases hx : x ≤ 3000
        · have hw : wrap64 (i + 1) = i + 1 := w64_ (by omega) (by omega)
          obtain ⟨b, hb⟩ := ih (wrap64 ((wrap64 ((wrap64 (x + (((rd_T50 t i).f0).length : Int))) + (((rd_T50 t i).f1).length : Int))) + (((rd_T50 t i).f2).length : Int))) (i + 1) (by omega) (by omega)
          exact ⟨b, Evt.step _ (fun k => by rw [quarrylaw23_vast.l0, if_pos hi, if_pos hx, if_pos h0, hw]) hb⟩
        · exact ⟨_, Evt.done (fun k => by rw [quarrylaw23_vast.l0, if_pos hi, if_neg hx])⟩
      · exact ⟨_, Evt.done (fun k => by rw [quarrylaw23_vast.l0, if_neg hi])⟩
  exact key t.length (t.length : Int) 0 (by decide) (by omega)
theorem steps_evt (l : List S53) (hl : l.length ≤ 4611686018427387904) : Evt (fun k => quarryref00_SameSteps.f k l l) true := by
  have key : ∀ (d : Nat) (i : Int), 0 ≤ i → (l.length : Int) ≤ i + d → Evt (fun k => quarryref00_SameSteps.l0 k l l i) true := by
    intro d
    induction d with
    | zero =>
      intro i h0 h1
      have hi : ¬ i < (l.length : Int) := by omega
      exact Evt.done (fun k => by rw [quarryref00_SameSteps.l0, if_neg hi])
    | succ d ih =>
      intro i h0 h1
      by_cases hi : i < (l.length : Int)
      · have hw : wrap64 (i + 1) = i + 1 := w64_ (by omega) (by omega)
        exact Evt.step _ (fun k => by rw [quarryref00_SameSteps.l0, if_pos hi, if_pos h0, if_pos hi, if_neg (by simp), hw]) (ih (i + 1) (by omega) (by omega))
      · exact Evt.done (fun k => by rw [quarryref00_SameSteps.l0, if_neg hi])
  exact Evt.eq _ (fun k => by rw [quarryref00_SameSteps.f, if_pos rfl]) (key l.length 0 (by decide) (by omega))
theorem paths_evt (l : List (List S53)) (hl : l.length ≤ 4611686018427387904) (hm : ∀ i : Int, 0 ≤ i → i < l.length → (rd_L3 l i).length ≤ 4611686018427387904) : Evt (fun k => quarryref00_SamePaths.f k l l) true := by
  have key : ∀ (d : Nat) (i : Int), 0 ≤ i → (l.length : Int) ≤ i + d → Evt (fun k => quarryref00_SamePaths.l0 k l l i) true := by
    intro d
    induction d with
    | zero =>
      intro i h0 h1
      have hi : ¬ i < (l.length : Int) := by omega
      exact Evt.done (fun k => by rw [quarryref00_SamePaths.l0, if_neg hi])
    | succ d ih =>
      intro i h0 h1
      by_cases hi : i < (l.length : Int)
      · have hw : wrap64 (i + 1) = i + 1 := w64_ (by omega) (by omega)
        exact Evt.step _ (fun k => by rw [quarryref00_SamePaths.l0, if_pos hi, if_pos h0, if_pos hi]) (Evt.bind (steps_evt _ (hm i h0 hi)) (Evt.eq _ (fun k => by rw [if_pos rfl, hw]) (ih (i + 1) (by omega) (by omega))))
      · exact Evt.done (fun k => by rw [quarryref00_SamePaths.l0, if_neg hi])
  exact Evt.eq _ (fun k => by rw [quarryref00_SamePaths.f, if_pos rfl]) (key l.length 0 (by decide) (by omega))
def smallT : List S50 := [⟨[⟨1, ⟨#[97]⟩, 0⟩], [1], []⟩, ⟨[⟨1, ⟨#[98]⟩, 0⟩], [2], [1]⟩, ⟨[], [], [0]⟩]
theorem smallTrie_is : quarrylaw23_smallTrie.f = some smallT := rfl
theorem small_small : SmallT smallT := by
  refine ⟨by decide, fun x hx => ?_, by decide, by decide⟩
  unfold smallT at hx
  simp only [List.mem_cons, List.not_mem_nil, or_false] at hx
  rcases hx with rfl | rfl | rfl
  · refine ⟨by decide, by decide, by decide, fun s hs => ?_⟩
    simp only [List.mem_cons, List.not_mem_nil, or_false] at hs
    subst hs
    show (1 : Nat) ≤ _
    decide
  · refine ⟨by decide, by decide, by decide, fun s hs => ?_⟩
    simp only [List.mem_cons, List.not_mem_nil, or_false] at hs
    subst hs
    show (1 : Nat) ≤ _
    decide
  · exact ⟨by decide, by decide, by decide, fun s hs => by cases hs⟩
theorem all_one {P : Int → Prop} (h : P 0) : All P 0 1 := fun m a b => by
  have : m = 0 := by omega
  subst this
  exact h
theorem small_formed : FormedQ smallT := by
  refine ⟨by decide, by decide, fun m a b => ?_, by decide, fun m a b => ?_, count_iff.2 (fun k a b => ?_)⟩
  · have hm : m = 0 ∨ m = 1 ∨ m = 2 := by
      have : m < 3 := b
      omega
    rcases hm with rfl | rfl | rfl
    · exact ⟨rfl, fun m a b => by have : m < 0 := b; omega, by kernel_rfl, all_one ⟨by decide, by decide, fun q a b => by omega⟩⟩
    · exact ⟨rfl, fun m a b => by have : m < 1 := b; omega, by kernel_rfl, all_one ⟨by decide, by decide, fun q a b => by omega⟩⟩
    · exact ⟨rfl, fun m a b => by have : m < 1 := b; omega, by kernel_rfl, fun m a b => by have : m < 0 := b; omega⟩
  · have hm : m = 1 ∨ m = 2 := by
      have : m < 3 := b
      omega
    rcases hm with rfl | rfl <;> decide
  · have hm : k = 0 ∨ k = 1 := by
      have : k < 2 := b
      omega
    rcases hm with rfl | rfl <;> decide
def smallL : List (List S53) := [[⟨1, ⟨#[97]⟩, 0⟩, ⟨1, ⟨#[98]⟩, 0⟩], [⟨1, ⟨#[97]⟩, 0⟩]]
theorem small_is : quarrylaw23_small.f = some smallL := rfl
theorem small_paths : Evt (fun k => trie_Paths.f k smallT) (smallL, 0) := by
  obtain ⟨p, O, hP, hE⟩ := paths_formed smallT small_small small_formed
  have h0 : rd_L3 p 0 = [] := List.length_eq_zero_iff.1 (by simpa using hP.1.2.1 0 (by decide))
  have h1 : rd_L3 p 1 = rd_L3 p 0 ++ [⟨1, ⟨#[97]⟩, 0⟩] := hP.1.2.2 0 0 (by decide) (by decide) (.inl (by decide))
  have h2 : rd_L3 p 2 = rd_L3 p 1 ++ [⟨1, ⟨#[98]⟩, 0⟩] := hP.1.2.2 1 0 (by decide) (by decide) (.inl (by decide))
  have o1 : rd_L3 O 1 = rd_L3 p 1 := hP.2.2 1 0 (by decide) (by decide) (.inl (by decide))
  have o0 : rd_L3 O 0 = rd_L3 p 2 := hP.2.2 2 0 (by decide) (by decide) (.inl (by decide))
  have hl : O.length = 2 := hP.2.1
  rw [h0] at h1
  rw [h1] at h2 o1
  rw [h2] at o0
  match O, hl, o0, o1, hE with
  | [x, y], _, o0, o1, hE =>
    have ex : x = [⟨1, ⟨#[97]⟩, 0⟩, ⟨1, ⟨#[98]⟩, 0⟩] := o0
    have ey : y = [⟨1, ⟨#[97]⟩, 0⟩] := o1
    rw [ex, ey] at hE
    exact hE
theorem triePaths_pure (t : List S50) (hs : SmallT t) : ∃ k, quarrylaw23_TriePaths.f k t = some true := by
  have hsm : Evt (fun k => quarryref00_SamePaths.f k smallL smallL) true := paths_evt smallL (by decide) (fun i h0 h1 => by
    have hi : i = 0 ∨ i = 1 := by
      have : i < 2 := h1
      omega
    rcases hi with rfl | rfl <;> decide)
  refine Evt.ex (Evt.eq _ (fun k => by rw [quarrylaw23_TriePaths.f, smallTrie_is, Option.bind_some]) (Evt.bind small_paths (Evt.eq _ (fun k => by rw [small_is, Option.bind_some]) (Evt.bind hsm ?_))))
  have hf := trieFormed_evt smallT small_small
  rw [decide_eq_true small_formed] at hf
  refine Evt.eq _ (fun k => by rw [if_pos rfl, if_pos rfl, Option.bind_some]) (Evt.bind hf ?_)
  obtain ⟨b, hb⟩ := vast_evt t hs.1
  refine Evt.step _ (fun k => by rw [quarrylaw23_TriePaths.j0, if_neg (by decide)]) (Evt.bind hb ?_)
  cases b with
  | true => exact Evt.eq _ (fun k => by rw [if_pos rfl]) Evt.const
  | false =>
    have f1 := trieFormed_evt t hs
    have f2 := refFormed_evt t hs
    have fin : ∀ v : Bool, Evt (fun k => some (v == v)) true := fun v => ⟨0, fun k _ => by cases v <;> rfl⟩
    have f12 : Evt (fun k => (trie_Formed.f k t).bind fun x => (quarryref23_Formed.f k t).bind fun y => some (x == y)) true := Evt.bind (g := fun k x => (quarryref23_Formed.f k t).bind fun y => some (x == y)) f1 (Evt.bind (g := fun k y => some (decide (FormedQ t) == y)) f2 (fin _))
    by_cases hF : FormedQ t
    · obtain ⟨p, O, hP, hE⟩ := paths_formed t hs hF
      have hR := refPaths_formed t hs hF p O hP
      have hO : Evt (fun k => quarryref00_SamePaths.f k O O) true := paths_evt O (by rw [hP.2.1]; exact Nat.le_trans hs.2.2.1 (by decide)) (fun i h0 h1 => paths_len t hs hF p O hP i h0 h1)
      refine Evt.eq _ (fun k => by rw [if_neg (by decide)]) (Evt.bind hE (Evt.bind hR (Evt.bind hO ?_)))
      exact Evt.eq (fun k => (trie_Formed.f k t).bind fun x => (quarryref23_Formed.f k t).bind fun y => some (x == y)) (fun k => by rw [if_pos rfl, if_pos rfl]) f12
    · have hE := paths_unformed t hs hF
      have hR := refPaths_unformed t hs hF
      have hO : Evt (fun k => quarryref00_SamePaths.f k [] []) true := paths_evt [] (by decide) (fun i h0 h1 => by
        have : i < 0 := h1
        omega)
      refine Evt.eq _ (fun k => by rw [if_neg (by decide)]) (Evt.bind hE (Evt.bind hR (Evt.bind hO ?_)))
      exact Evt.eq (fun k => (trie_Formed.f k t).bind fun x => (quarryref23_Formed.f k t).bind fun y => some (x == y)) (fun k => by rw [if_pos rfl, if_pos rfl]) f12
end Go.Proofs.Ythlneooboiphdaa.PTriePaths
