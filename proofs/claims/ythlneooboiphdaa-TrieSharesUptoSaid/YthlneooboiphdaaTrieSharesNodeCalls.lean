/- (*node).step: whole. -/
import Derived.Test.YthlneooboiphdaaTrieSharesTriePure
set_option linter.unusedVariables false
set_option linter.unusedSimpArgs false
namespace Go.Proofs.Ythlneooboiphdaa.PTrieShares
open Go.RowKit Go.Proofs.Ythlneooboiphdaa Go.Proofs.YthlneooboiphdaaW.PrintWords Go.Proofs.YthlneooboiphdaaW.PrintLast Go.Proofs.YthlneooboiphdaaW.PrintMore
/-- A row that no node's pointers lie in. -/
def AllApart (G : List GN) (v : Value) : Prop := ∀ g ∈ G, ∀ k, v.ownBlock = some k → some k ≠ g.vT.ownBlock
/-- The nodes that a list tells. -/
structure Tells (base : Nat) (w : World) (G : List GN) (T : List PN) : Prop where
  nodes : Nodes base w G
  told : G.map GN.abs = T
theorem Tells.len {base : Nat} {w : World} {G : List GN} {T : List PN} (h : Tells base w G T) : G.length = T.length := by rw [← h.told, List.length_map]
theorem Tells.at_ {base : Nat} {w : World} {G : List GN} {T : List PN} (h : Tells base w G T) {i : Nat} {g : GN} (hg : G[i]? = some g) : T[i]? = some g.abs := by rw [← h.told, List.getElem?_map, hg]; rfl
theorem Tells.below {base : Nat} {w w1 : World} {G : List GN} {T : List PN} (h : Tells base w G T) (hb : Below w.heap.size w w1) : Tells base w1 G T := ⟨h.nodes.below hb, h.told⟩
theorem node_step_calls (base : Nat) (G : List GN) (T : List PN) (at_ k i : Nat) (s : S53) (w : World) (hN : Tells base w G T) (hW : WfP T k i) (hk : k ≤ 1073741824) (g : GN) (hg : G[at_]? = some g) (v : Value) (hv : Flat kP 67 base w v (G.map GN.b)) (ha : AllApart G v) (b : Bool) (hbf : (findS g.st s).isNone = b) :
    Calls Try.prog 40 #[.pointer (some ⟨g.b, 0, none⟩), .agg #[.int .i64 s.f0, .string s.f1, .int .i64 s.f2], .int .i64 (G.length : Int)] w fun e w' =>
      ∃ G' h, e = .returned (.tuple #[.pointer (some ⟨h.b, 0, none⟩), .bool b]) ∧ Tells base w' G' (stepP T at_ s).1 ∧ G'[(stepP T at_ s).2]? = some h ∧
        (b = true → G'.map GN.b = G.map GN.b ++ [h.b]) ∧ (b = false → G'.map GN.b = G.map GN.b) ∧ Below base w w' ∧ w.heap.size ≤ w'.heap.size ∧ Flat kP 67 base w' v (G.map GN.b) ∧ AllApart G' v := by
  have hT := hN.at_ hg
  have hlt : at_ < T.length := (List.getElem?_eq_some_iff.1 hT).1
  have hmem := hW.each _ (List.mem_of_getElem? hT)
  have hst : g.st.length ≤ k := hmem.1
  have hnx : g.nx.length = g.st.length := hmem.2.1
  cases hf : findS g.st s with
  | some m =>
    rw [hf] at hbf
    subst hbf
    have hs : stepP T at_ s = (T, g.nx.getD m 0) := by
      unfold stepP
      rw [hT]
      show (match findS g.st s with | some m => (T, g.nx.getD m 0) | none => _) = _
      rw [hf]
    rw [hs]
    refine (node_step_found base G at_ g hg s (G.length : Int) w hN.nodes m hf hnx.symm).mono ?_
    rintro e w' ⟨⟨n, h, h1, h2, rfl⟩, hb⟩
    have hbw : base ≤ w.heap.size := Nat.le_trans (hN.nodes.cell at_ g hg).2 (Nat.le_of_lt (blk_lt (hN.nodes.cell at_ g hg).1))
    refine ⟨G, h, rfl, hN.below hb, ?_, fun h => (by cases h), fun _ => rfl, ⟨hb.os, hb.tape, hb.output, hb.size, fun j hj => hb.block j (Nat.lt_of_lt_of_le hj hbw)⟩, hb.size, hv.below hb, ha⟩
    show G[g.nx.getD m 0]? = some h
    rw [List.getD_eq_getElem?_getD, h1]
    exact h2
  | none =>
    rw [hf] at hbf
    subst hbf
    have hs : stepP T at_ s = (T.set at_ ⟨g.st ++ [s], g.nx ++ [T.length], g.en⟩ ++ [noP], T.length) := by
      unfold stepP
      rw [hT]
      show (match findS g.st s with | some m => (T, g.nx.getD m 0) | none => _) = _
      rw [hf]
      rfl
    rw [hs]
    refine (node_step_made base G at_ g hg s (G.length : Int) w hN.nodes hf (by omega) (by omega) rfl).mono ?_
    rintro e w' ⟨nb, vS, vT, rfl, hN', hk', hb, hn⟩
    refine ⟨_, bare nb, rfl, ⟨hN', ?_⟩, ?_, fun _ => ?_, fun h => (by cases h), hb, hk'.1, ?_, ?_⟩
    · rw [List.map_append, List.map_set, hN.told, hN.len]
      rfl
    · rw [← hN.len, List.getElem?_append_right (by simp)]
      simp
    · rw [List.map_append, List.map_set]
      congr 1
      refine List.ext_getElem? (fun j => ?_)
      by_cases hj : at_ = j
      · subst hj
        rw [List.getElem?_set_self (by rw [List.length_map]; exact (List.getElem?_eq_some_iff.1 hg).1), List.getElem?_map, hg]
        rfl
      · rw [List.getElem?_set_ne hj]
    · refine hv.kept hk' (fun k hk2 => ?_)
      rintro (e | e | e)
      · subst e
        exact hv.ne (hN.nodes.cell at_ g hg).1 (by decide) hk2.symm
      · exact hv.apart (hN.nodes.rs at_ g hg) (by decide) k hk2 e
      · exact ha g (List.mem_of_getElem? hg) k hk2 e
    · intro q hq k hk2
      rcases List.mem_append.1 hq with h1 | h1
      · rcases List.mem_or_eq_of_mem_set h1 with h2 | h2
        · exact ha q h2 k hk2
        · subst h2
          exact hn.apart hv.lt (ha g (List.mem_of_getElem? hg)) k hk2
      · obtain rfl : q = bare nb := by simpa using h1
        simp [bare, Value.ownBlock]
end Go.Proofs.Ythlneooboiphdaa.PTrieShares
