/- The nodes of a trie that is built: each in a block of its own, with three rows; all apart. -/
import Derived.Test.YthlneooboiphdaaPTrieSharesx0
import Derived.Test.YthlneooboiphdaaStepW
import Derived.Test.YthlneooboiphdaaFlatRow
import Derived.Deep.AppendLies
import Derived.Deep.RegionHeld3
set_option linter.unusedVariables false
set_option linter.unusedSimpArgs false
namespace Go.Proofs.Ythlneooboiphdaa.PTrieShares
open Go.RowKit Go.Proofs.Ythlneooboiphdaa Go.Proofs.YthlneooboiphdaaW.PrintWords Go.Proofs.YthlneooboiphdaaW.PrintLast Go.Proofs.YthlneooboiphdaaW.PrintMore

/-- A row of pointers to blocks. -/
def kP : Kd Nat := Kd.scalar (fun b => Value.pointer (some ⟨b, 0, none⟩)) (fun _ => rfl)
/-- One node, as it is told. -/
structure GN where
  b : Nat
  vS : Value
  vT : Value
  vE : Value
  st : List S53
  nx : List Nat
  en : List Int
/-- The nodes, in a world. -/
structure Nodes (base : Nat) (w : World) (G : List GN) : Prop where
  cell : ∀ (i : Nat) (g : GN), G[i]? = some g → w.heap[g.b]? = some (.cells #[g.vS, g.vT, g.vE, .int .i64 (i : Int)] 70 (0, 0)) ∧ base ≤ g.b
  rs : ∀ (i : Nat) (g : GN), G[i]? = some g → Flat k53 53 base w g.vS g.st
  rt : ∀ (i : Nat) (g : GN), G[i]? = some g → ∃ bs : List Nat, Flat kP 67 base w g.vT bs ∧ bs.length = g.nx.length ∧ ∀ (j n : Nat), g.nx[j]? = some n → ∃ h, G[n]? = some h ∧ bs[j]? = some h.b
  re : ∀ (i : Nat) (g : GN), G[i]? = some g → Flat (Kd.int .i64) 3 base w g.vE g.en
  sep : ∀ (i j : Nat) (g h : GN), i ≠ j → G[i]? = some g → G[j]? = some h → g.b ≠ h.b ∧ (∀ k, g.vS.ownBlock = some k → some k ≠ h.vS.ownBlock) ∧ (∀ k, g.vT.ownBlock = some k → some k ≠ h.vT.ownBlock) ∧ (∀ k, g.vE.ownBlock = some k → some k ≠ h.vE.ownBlock)
theorem Nodes.below {base : Nat} {w w1 : World} {G : List GN} (h : Nodes base w G) (hb : Below w.heap.size w w1) : Nodes base w1 G where
  cell := fun i g hi => ⟨blk_below (h.cell i g hi).1 hb, (h.cell i g hi).2⟩
  rs := fun i g hi => (h.rs i g hi).below hb
  rt := fun i g hi => by
    obtain ⟨bs, h1, h2, h3⟩ := h.rt i g hi
    exact ⟨bs, h1.below hb, h2, h3⟩
  re := fun i g hi => (h.re i g hi).below hb
  sep := h.sep
/-- Are two steps the same? As the machine asks. -/
def sameS (a b : S53) : Bool := decide (a.f0 = b.f0) && (decide (a.f1.toList = b.f1.toList) && decide (a.f2 = b.f2))
/-- Which of a node's steps is it, first? -/
def findS (l : List S53) (s : S53) : Option Nat := l.findIdx? (fun y => sameS y s)
theorem at_ptr {w : World} {A : Option Addr} {n : Nat} {xs : List Nat} (h : kP.C w A n xs) (i : Int) (h0 : 0 ≤ i) (h1 : i < n) : ∃ ad, A = some ad ∧ w.cell? (ad.add i.toNat) = some (.pointer (some ⟨xs.getD i.toNat 0, 0, none⟩)) := by
  obtain ⟨ad, c, e, _, hK, hc⟩ := Kd.C_get h 0 i h0 h1
  have hK2 : c = [Value.pointer (some ⟨xs.getD i.toNat 0, 0, none⟩)] := hK
  subst hK2
  refine ⟨ad, e, ?_⟩
  have := hc 0 _ rfl
  have e1 : kP.sz = 1 := rfl
  rwa [e1, Nat.mul_one, Nat.add_zero] at this
theorem rd_some (l : List S53) (i : Nat) (h : i < l.length) : l[i]? = some (rd_T53 l (i : Int)) := by
  unfold rd_T53
  rw [Int.toNat_natCast, List.getD_eq_getElem?_getD, List.getElem?_eq_getElem h]
  rfl
end Go.Proofs.Ythlneooboiphdaa.PTrieShares
