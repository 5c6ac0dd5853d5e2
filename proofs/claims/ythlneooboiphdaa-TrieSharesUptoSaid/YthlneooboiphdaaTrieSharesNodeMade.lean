/- (*node).step: the walk where a node is made. -/
import Derived.Test.YthlneooboiphdaaTrieSharesNodeStep
import Derived.Test.YthlneooboiphdaaTrieSharesNodesUpd
import Derived.Test.YthlneooboiphdaaWKept
import Derived.Test.YthlneooboiphdaaWTab
set_option linter.unusedVariables false
set_option linter.unusedSimpArgs false
namespace Go.Proofs.Ythlneooboiphdaa.PTrieShares
open Go.RowKit Go.Proofs.Ythlneooboiphdaa Go.Proofs.YthlneooboiphdaaW.PrintWords Go.Proofs.YthlneooboiphdaaW.PrintLast Go.Proofs.YthlneooboiphdaaW.PrintMore
theorem infoP : (Try.prog.info? 67).map (fun i => (i.zero, i.size, i.bytes)) = some (some (.pointer none), 1, 8) := by kernel_rfl
theorem grown_drew9 (w : World) (row : Option Nat) : w.grownBy w.drew row := ⟨rfl, rfl, rfl, Nat.le_refl _, fun _ _ _ => rfl⟩
theorem blk_new9 {w : World} {o : Obj} {n : Nat} (h : w.heap.size = n) : (w.alloc o).heap[n]? = some o := by rw [← h]; exact blk_new w o
theorem blk_grown9 {w w1 : World} {g : Nat} {o : Obj} {row : Option Nat} (hg : w.grownBy w1 row) (h : w.heap[g]? = some o) (hne : some g ≠ row) : w1.heap[g]? = some o := blk_grown h hg hne
theorem nodeEnd {gb : Nat} {c0 c1 c2 c3 : Value} {t : TypeId} {r0 r1 : Option Nat} (V w' wT : World) (BG : V.heap[gb]? = some (.cells #[c0, c1, c2, c3] t (0, 0))) (n0 : some gb ≠ r0) (n1 : some gb ≠ r1) (hG : V.grownBy w' r0) (hT : w'.grownBy wT r1) :
    wT.cell? ⟨gb, 0, none⟩ = some c0 ∧ wT.cell? ⟨gb, 1, none⟩ = some c1 ∧ wT.frozen? ⟨gb, 0, none⟩ = false ∧ wT.frozen? ⟨gb, 1, none⟩ = false := by
  have h := blk_grown (blk_grown BG hG n0) hT n1
  exact ⟨(blk_cell h 0).trans rfl, (blk_cell h 1).trans rfl, blk_frozen h 0, blk_frozen h 1⟩
theorem cell_put9 (w : World) (gb : Nat) (u : Value) {v : Value} (h : w.cell? ⟨gb, 1, none⟩ = some v) (hf : w.frozen? ⟨gb, 1, none⟩ = false) :
    (w.setCell ⟨gb, 0, none⟩ u).cell? ⟨gb, 1, none⟩ = some v ∧ (w.setCell ⟨gb, 0, none⟩ u).frozen? ⟨gb, 1, none⟩ = false := by
  refine ⟨(World.cell?_setCell_other w _ _ u (by simp)).trans h, ?_⟩
  rw [World.frozen?_setCell]
  exact hf
/-- The nodes behind a step that makes one. -/
theorem nodes_made {base : Nat} {G : List GN} {at_ : Nat} {g : GN} {s : S53} {w V w' wT : World} {A AT : Option Addr} {c cT nb gS cS gT cT2 : Nat} {bs : List Nat} (hN : Nodes base w G) (hg : G[at_]? = some g)
    (hv : g.vS = .slice A g.st.length c) (hvT : g.vT = .slice AT bs.length cT) (hT1 : bs.length = g.nx.length) (hT2 : ∀ (j n : Nat), g.nx[j]? = some n → ∃ h, G[n]? = some h ∧ bs[j]? = some h.b) (FT0 : Flat kP 67 base w (.slice AT bs.length cT) bs)
    (hVB : Below w.heap.size w V) (BN : V.heap[nb]? = some (.cells #[.slice none 0 0, .slice none 0 0, .slice none 0 0, .int .i64 (G.length : Int)] 70 (0, 0))) (hnb : w.heap.size ≤ nb)
    (hG : V.grownBy w' (Value.ownBlock (.slice A g.st.length c))) (hA : Value.ownBlock (.slice A g.st.length c) = some gS ∨ V.heap.size ≤ gS) (hF : Flat k53 53 base w' (.slice (some ⟨gS, 0, none⟩) (g.st.length + 1) cS) (g.st ++ [s]))
    (hFT2 : Flat kP 67 base wT (.slice (some ⟨gT, 0, none⟩) (bs.length + 1) cT2) (bs ++ [nb])) (hGT : w'.grownBy wT (Value.ownBlock (.slice AT bs.length cT))) (hAT : Value.ownBlock (.slice AT bs.length cT) = some gT ∨ gT = w'.heap.size) :
    ∀ X, X = (wT.setCell ⟨g.b, 0, none⟩ (.slice (some ⟨gS, 0, none⟩) (g.st.length + 1) cS)).setCell ⟨g.b, 1, none⟩ (.slice (some ⟨gT, 0, none⟩) (bs.length + 1) cT2) →
    Nodes base X (G.set at_ ⟨g.b, .slice (some ⟨gS, 0, none⟩) (g.st.length + 1) cS, .slice (some ⟨gT, 0, none⟩) (bs.length + 1) cT2, g.vE, g.st ++ [s], g.nx ++ [G.length], g.en⟩ ++ [bare nb]) ∧
      Kept w X (fun k => k = g.b ∨ some k = g.vS.ownBlock ∨ some k = g.vT.ownBlock) ∧ Below base w X ∧ Near w (.slice (some ⟨gT, 0, none⟩) (bs.length + 1) cT2) g.vT := by
  intro X hX
  have hat : at_ < G.length := (List.getElem?_eq_some_iff.1 hg).1
  have hcg := hN.cell at_ g hg
  have hSg := hN.rs at_ g hg
  have hEg := hN.re at_ g hg
  rw [hv] at hSg
  have hbw : base ≤ w.heap.size := Nat.le_trans hcg.2 (Nat.le_of_lt (blk_lt hcg.1))
  have BG : w.heap[g.b]? = some (.cells #[.slice A g.st.length c, .slice AT bs.length cT, g.vE, .int .i64 (at_ : Int)] 70 (0, 0)) := by rw [← hv, ← hvT]; exact hcg.1
  have ne1 : some g.b ≠ Value.ownBlock (.slice A g.st.length c) := hSg.ne hcg.1 (by decide)
  have ne2 : some g.b ≠ Value.ownBlock (.slice AT bs.length cT) := FT0.ne hcg.1 (by decide)
  have BT := blk_grown (blk_grown (blk_below BG hVB) hG ne1) hGT ne2
  have FTV := FT0.below hVB
  have FTw := FTV.grown hG ((hSg.below hVB).apart FTV (by decide))
  have hF2 := hF.grown hGT (flip_ (hF.apart FTw (by decide)))
  have nS : some g.b ≠ Value.ownBlock (.slice (some ⟨gS, 0, none⟩) (g.st.length + 1) cS) := hF2.ne BT (by decide)
  have nT : some g.b ≠ Value.ownBlock (.slice (some ⟨gT, 0, none⟩) (bs.length + 1) cT2) := hFT2.ne BT (by decide)
  have kV : Kept w w' (fun k => k = g.b ∨ some k = g.vS.ownBlock ∨ some k = g.vT.ownBlock) := Kept.of_grown hG (Kept.of_below hVB _) (fun k hk => .inl (.inr (.inl (by rw [hv]; exact hk.symm))))
  have kT : Kept w wT (fun k => k = g.b ∨ some k = g.vS.ownBlock ∨ some k = g.vT.ownBlock) := Kept.of_grown hGT kV (fun k hk => .inl (.inr (.inr (by rw [hvT]; exact hk.symm))))
  have kX : Kept w X (fun k => k = g.b ∨ some k = g.vS.ownBlock ∨ some k = g.vT.ownBlock) := by
    rw [hX]
    exact (kT.setCell (.inl (.inl rfl)) _).setCell (.inl (.inl rfl)) _
  have b1 : Below base w V := ⟨hVB.os, hVB.tape, hVB.output, hVB.size, fun i hi => hVB.block i (Nat.lt_of_lt_of_le hi hbw)⟩
  have b2 : Below base w w' := pw_below_grown b1 _ (Nat.le_trans hbw hVB.size) hG hSg.base
  have b3 : Below base w wT := pw_below_grown b2 _ (Nat.le_trans hbw kV.1) hGT FT0.base
  have aT : Near w (.slice (some ⟨gT, 0, none⟩) (bs.length + 1) cT2) g.vT := by
    rcases hAT with h | h
    · exact .inl (by rw [hvT, h]; rfl)
    · exact .inr ⟨gT, rfl, by rw [h]; exact kV.1⟩
  refine ⟨?_, kX, ?_, aT⟩
  · refine Nodes.upd hN hg rfl (kX.mono (fun k hk => ?_)) ?_ ?_ ?_ ?_ ?_ aT (.inl rfl) (by simp) ?_
    · rcases hk with h | h | h
      · exact .inl h
      · exact .inr (.inl h)
      · exact .inr (.inr (.inl h))
    · rw [hX]
      exact blk_put (blk_put BT 0 _ rfl) 1 _ rfl
    · rw [hX]
      exact (hF2.set nS _).set nS _
    · refine ⟨bs ++ [nb], ?_, by simp [hT1], fun j n hj => ?_⟩
      · rw [hX]
        exact (hFT2.set nT _).set nT _
      · by_cases hlt : j < g.nx.length
        · rw [List.getElem?_append_left hlt] at hj
          obtain ⟨h, h1, h2⟩ := hT2 j n hj
          obtain ⟨h', h3, h4⟩ := look_back (nw := [bare nb]) (g' := ⟨g.b, .slice (some ⟨gS, 0, none⟩) (g.st.length + 1) cS, .slice (some ⟨gT, 0, none⟩) (bs.length + 1) cT2, g.vE, g.st ++ [s], g.nx ++ [G.length], g.en⟩) hg rfl h1
          exact ⟨h', h3, by rw [List.getElem?_append_left (by omega), h2, h4]⟩
        · rw [List.getElem?_append_right (by omega)] at hj
          have hj0 := (List.getElem?_eq_some_iff.1 hj).1
          have hj1 : j = g.nx.length := by simp at hj0; omega
          subst hj1
          simp at hj
          subst hj
          refine ⟨bare nb, by rw [List.getElem?_append_right (by simp)]; simp, ?_⟩
          rw [List.getElem?_append_right (by omega)]
          simp [hT1, bare]
    · rw [hX]
      have hE2 := hEg.kept kT (fun k hk1 => by
        rintro (e | e | e)
        · subst e
          exact hEg.ne hcg.1 (by decide) hk1.symm
        · rw [hv] at e
          exact hEg.apart hSg (by decide) k hk1 e
        · rw [hvT] at e
          exact hEg.apart FT0 (by decide) k hk1 e)
      have nE : some g.b ≠ g.vE.ownBlock := hEg.ne hcg.1 (by decide)
      exact (hE2.set nE _).set nE _
    · rcases hA with h | h
      · exact .inl (by rw [hv, h]; rfl)
      · exact .inr ⟨gS, rfl, Nat.le_trans hVB.size h⟩
    · intro h hm
      obtain rfl : h = bare nb := by simpa using hm
      refine ⟨rfl, hnb, ?_⟩
      have n1 : some nb ≠ Value.ownBlock (.slice A g.st.length c) := fun e => by have := hSg.lt nb e.symm; omega
      have n2 : some nb ≠ Value.ownBlock (.slice AT bs.length cT) := fun e => by have := FT0.lt nb e.symm; omega
      have n3 : nb ≠ g.b := fun e => by have := blk_lt hcg.1; omega
      rw [hX]
      exact blk_far (blk_far (blk_grown (blk_grown BN hG n1) hGT n2) n3 _) n3 _
  · rw [hX]
    exact (b3.setCell hcg.2 _).setCell hcg.2 _
/-- A type's row, told. -/
theorem info_of {P : Program} {t : TypeId} {z : Value} {n b : Nat} (h : (P.info? t).map (fun i => (i.zero, i.size, i.bytes)) = some (some z, n, b)) : ∃ i, P.info? t = some i ∧ i.zero = some z ∧ i.size = n ∧ i.bytes = b := by
  cases hi : P.info? t with
  | none => rw [hi] at h; cases h
  | some i =>
    rw [hi] at h
    injection h with h
    injection h with h1 h2
    injection h2 with h2 h3
    exact ⟨i, rfl, h1, h2, h3⟩
set_option maxHeartbeats 4000000 in
set_option maxRecDepth 100000 in
theorem node_step_made (base : Nat) (G : List GN) (at_ : Nat) (g : GN) (hg : G[at_]? = some g) (s : S53) (made : Int) (w : World) (hN : Nodes base w G) (hf : findS g.st s = none) (hm1 : (g.st.length + 1) * 32 ≤ 140737488355328) (hm2 : (g.nx.length + 1) * 8 ≤ 140737488355328) (hmade : made = (G.length : Int)) :
    Calls Try.prog 40 #[.pointer (some ⟨g.b, 0, none⟩), .agg #[.int .i64 s.f0, .string s.f1, .int .i64 s.f2], .int .i64 made] w fun e w' => ∃ nb vS vT, e = .returned (.tuple #[.pointer (some ⟨nb, 0, none⟩), .bool true]) ∧ Nodes base w' (G.set at_ ⟨g.b, vS, vT, g.vE, g.st ++ [s], g.nx ++ [G.length], g.en⟩ ++ [bare nb]) ∧
      Kept w w' (fun k => k = g.b ∨ some k = g.vS.ownBlock ∨ some k = g.vT.ownBlock) ∧ Below base w w' ∧ Near w vT g.vT := by
  have hu := Try.underlying53
  have BG := (hN.cell at_ g hg).1
  have hbg := (hN.cell at_ g hg).2
  obtain ⟨A, c, hv⟩ := (hN.rs at_ g hg).slice
  have hR := hN.rs at_ g hg
  rw [hv] at hR BG
  have hr := hR.reads
  have hmax : g.st.length ≤ 9223372036854775807 := Kd.C_max hr.2.2
  have hm3 : ∀ y ∈ g.st, sameS y s = false := by simpa using List.findIdx?_eq_none_iff.1 hf
  obtain ⟨bs, hT, hT1, hT2⟩ := hN.rt at_ g hg
  obtain ⟨AT, cT, hvT⟩ := hT.slice
  rw [hvT] at hT BG
  have hrT := hT.reads
  have hCT := Kd.C_alloc hrT.2.2 (.cells #[.int .i64 s.f0, .string s.f1, .int .i64 s.f2] 53)
  have hb0 := below_alloc (Below.refl w.heap.size w) (.cells #[.int .i64 s.f0, .string s.f1, .int .i64 s.f2] 53)
  have BS := blk_new w (.cells #[.int .i64 s.f0, .string s.f1, .int .i64 s.f2] 53)
  have BG2 := blk_alloc BG (.cells #[.int .i64 s.f0, .string s.f1, .int .i64 s.f2] 53)
  have hC := Kd.C_alloc hr.2.2 (.cells #[.int .i64 s.f0, .string s.f1, .int .i64 s.f2] 53)
  have hT1b := hT1
  have HT1 := Aside0.mk hT1
  have FS0 := Aside0.mk hR
  have FT0 := Aside0.mk hT
  have hFlt : (∀ k, Value.ownBlock (.slice A g.st.length c) = some k → k < w.heap.size) ∧ (∀ k, Value.ownBlock (.slice AT bs.length cT) = some k → k < w.heap.size) := ⟨hR.lt, hT.lt⟩
  have HM := Aside0.mk hm1
  have HM2 : Aside0 ((bs.length + 1) * 8 ≤ 140737488355328) := ⟨by rw [hT1b]; exact hm2⟩
  clear hm1 hm2 hT1b
  have HM3 := Aside0.mk hm3
  have HMD := Aside0.mk hmade
  clear hmade
  clear hT1 hm3
  go_enter Try.func40, Try.ntmps40
  go_upto_region 1 with fail
  generalize w.alloc (.cells #[.int .i64 s.f0, .string s.f1, .int .i64 s.f2] 53) = W at hb0 BS BG2 hC hCT ⊢
  clear BG hr hrT hT hR hf
  have k0 := (blk_cell BG2 0).trans rfl
  go_wp2
  go_loopg [16] (g.st.length + 1) (fun kq v16 wr => ∃ i : Int, v16 = .int .i64 i ∧ Aside0 (0 ≤ i ∧ i ≤ (g.st.length : Int) ∧ i.toNat + kq = g.st.length + 1) ∧ Aside0 (Below W.heap.size W wr))
  case atStart => exact ⟨0, rfl, ⟨by omega, by omega, by omega⟩, ⟨Below.refl _ _⟩⟩
  case round =>
    obtain ⟨i, rfl, HK, HB⟩ := hrel
    obtain ⟨g0, gl, gk1⟩ := HK.out
    by_cases c1 : i < (g.st.length : Int)
    rotate_left
    · have c1b : decide (i < (g.st.length : Int)) = false := decide_eq_false c1
      have HB1 := HB.out
      clear HK gl gk1 g0
      go_upto_region 9 with fail
      have hnb : w.heap.size ≤ wr.heap.size := (below_step hb0 HB1).size
      have BN := blk_new wr (.cells #[.slice none 0 0, .slice none 0 0, .slice none 0 0, .int .i64 made] 70)
      have BG3 := blk_alloc (blk_below BG2 HB1) (.cells #[.slice none 0 0, .slice none 0 0, .slice none 0 0, .int .i64 made] 70)
      have BS3 := blk_alloc (blk_below BS HB1) (.cells #[.slice none 0 0, .slice none 0 0, .slice none 0 0, .int .i64 made] 70)
      have hVB := below_alloc (below_step hb0 HB1) (.cells #[.slice none 0 0, .slice none 0 0, .slice none 0 0, .int .i64 made] 70)
      have hVB2 := below_alloc (below_step hb0 HB1) (.cells #[.slice none 0 0, .slice none 0 0, .slice none 0 0, .int .i64 made] 70)
      have FS := FS0.out.below hVB
      have FT := FT0.out.below hVB
      clear HB BS BG2 k0 c1
      generalize wr.heap.size = nb at *
      generalize wr.alloc (.cells #[.slice none 0 0, .slice none 0 0, .slice none 0 0, .int .i64 made] 70) = V at BN BG3 BS3 hVB FS FT ⊢
      have ne1 : some g.b ≠ Value.ownBlock (.slice A g.st.length c) := FS.ne BG3 (by decide)
      have ne2 : some g.b ≠ Value.ownBlock (.slice AT bs.length cT) := FT.ne BG3 (by decide)
      have ne4 : some w.heap.size ≠ Value.ownBlock (.slice A g.st.length c) := fun e => Nat.lt_irrefl _ (hFlt.1 _ e.symm)
      have ne5 : some w.heap.size ≠ Value.ownBlock (.slice AT bs.length cT) := fun e => Nat.lt_irrefl _ (hFlt.2 _ e.symm)
      have mk : ∀ w' : World, V.grownBy w' (Value.ownBlock (.slice A g.st.length c)) → w'.cell? ⟨g.b, 0, none⟩ = some (.slice A g.st.length c) ∧ w'.cell? ⟨g.b, 1, none⟩ = some (.slice AT bs.length cT) ∧ w'.cell? ⟨w.heap.size, 0, none⟩ = some (.int .i64 s.f0) ∧ w'.cell? ⟨w.heap.size, 1, none⟩ = some (.string s.f1) ∧ w'.cell? ⟨w.heap.size, 2, none⟩ = some (.int .i64 s.f2) := fun w' hk =>
        ⟨(blk_cell (blk_grown BG3 hk ne1) 0).trans rfl, (blk_cell (blk_grown BG3 hk ne1) 1).trans rfl, (blk_cell (blk_grown BS3 hk ne4) 0).trans rfl, (blk_cell (blk_grown BS3 hk ne4) 1).trans rfl, (blk_cell (blk_grown BS3 hk ne4) 2).trans rfl⟩
      have hFSlt := FS.lt
      have apartST := FS.apart FT (by decide)
      have hbs : base ≤ V.heap.size := by have := blk_lt BG3; omega
      obtain ⟨iS, iS1, iS2, iS3, iS4⟩ := info_of info53
      obtain ⟨iT, iT1, iT2, iT3, iT4⟩ := info_of infoP
      refine start_ (n := 22) (S := fun w' => w'.cell? ⟨g.b, 0, none⟩ = some (.slice A g.st.length c) ∧ w'.cell? ⟨g.b, 1, none⟩ = some (.slice AT bs.length cT) ∧ w'.cell? ⟨w.heap.size, 0, none⟩ = some (.int .i64 s.f0) ∧ w'.cell? ⟨w.heap.size, 1, none⟩ = some (.string s.f1) ∧ w'.cell? ⟨w.heap.size, 2, none⟩ = some (.int .i64 s.f2)) (ds := [15, 18, 21]) #[false, false, false, false, false, false, false, false, false, false, false, false, false, false, false, false, false, false, false, false, false, false] (by kernel_rfl) rfl rfl ⟨(mk _ (grown_drew9 V _)).1, (mk _ (grown_drew9 V _)).2.1, (mk _ (grown_drew9 V _)).2.2.1, (mk _ (grown_drew9 V _)).2.2.2.1, (mk _ (grown_drew9 V _)).2.2.2.2⟩ (fun hHeld => ?_)
      refine pure_ (i := 0) (N := some 37) (v := ?_) (a' := ?_) #[true, false, false, false, false, false, false, false, false, false, false, false, false, false, false, false, false, false, false, false, false, false] rfl rfl (by kernel_rfl) (fun _ _ _ h => h) (Or.inl ⟨by rfl, ?_⟩) ?_ ?_
      rotate_left
      · intro w'
        go_simp
        with_reducible rfl
      rotate_left
      · simp only [Act.put, List.setIfInBounds_toArray, List.set_cons_zero, List.set_cons_succ, i64_w, i32_w]
        rfl
      refine pure_ (i := 1) (N := some 38) (v := ?_) (a' := ?_) #[true, true, false, false, false, false, false, false, false, false, false, false, false, false, false, false, false, false, false, false, false, false] rfl rfl (by kernel_rfl) (fun _ _ _ h => h) (Or.inl ⟨by rfl, ?_⟩) ?_ ?_
      rotate_left
      · intro w'
        go_simp
        with_reducible rfl
      rotate_left
      · simp only [Act.put, List.setIfInBounds_toArray, List.set_cons_zero, List.set_cons_succ, i64_w, i32_w]
        rfl
      refine pure_ (i := 2) (N := some 39) (v := ?_) (a' := ?_) #[true, true, true, false, false, false, false, false, false, false, false, false, false, false, false, false, false, false, false, false, false, false] rfl rfl (by kernel_rfl) (fun _ _ _ h => h) (Or.inl ⟨by rfl, ?_⟩) ?_ ?_
      rotate_left
      · intro w'
        go_simp
        with_reducible rfl
      rotate_left
      · simp only [Act.put, List.setIfInBounds_toArray, List.set_cons_zero, List.set_cons_succ, i64_w, i32_w]
        rfl
      refine pure_ (i := 3) (N := some 40) (v := ?_) (a' := ?_) #[true, true, true, true, false, false, false, false, false, false, false, false, false, false, false, false, false, false, false, false, false, false] rfl rfl (by kernel_rfl) (fun _ _ _ h => h) (Or.inl ⟨by rfl, ?_⟩) ?_ ?_
      rotate_left
      · intro w'
        go_simp
        with_reducible rfl
      rotate_left
      · simp only [Act.put, List.setIfInBounds_toArray, List.set_cons_zero, List.set_cons_succ, i64_w, i32_w]
        rfl
      refine pure_ (i := 4) (N := some 41) (v := ?_) (a' := ?_) #[true, true, true, true, true, false, false, false, false, false, false, false, false, false, false, false, false, false, false, false, false, false] rfl rfl (by kernel_rfl) (fun _ _ _ h => h) (Or.inl ⟨by rfl, ?_⟩) ?_ ?_
      rotate_left
      · intro w'
        go_simp
        with_reducible rfl
      rotate_left
      · simp only [Act.put, List.setIfInBounds_toArray, List.set_cons_zero, List.set_cons_succ, i64_w, i32_w]
        rfl
      refine pure_ (i := 9) (N := some 46) (v := ?_) (a' := ?_) #[true, true, true, true, true, false, false, false, false, true, false, false, false, false, false, false, false, false, false, false, false, false] rfl rfl (by kernel_rfl) (fun _ _ _ h => h) (Or.inl ⟨by rfl, ?_⟩) ?_ ?_
      rotate_left
      · intro w'
        go_simp
        with_reducible rfl
      rotate_left
      · simp only [Act.put, List.setIfInBounds_toArray, List.set_cons_zero, List.set_cons_succ, i64_w, i32_w]
        rfl
      refine pure_ (i := 10) (N := some 47) (v := ?_) (a' := ?_) #[true, true, true, true, true, false, false, false, false, true, true, false, false, false, false, false, false, false, false, false, false, false] rfl rfl (by kernel_rfl) (fun _ _ _ h => h) (Or.inl ⟨by rfl, ?_⟩) ?_ ?_
      rotate_left
      · intro w'
        go_simp
        with_reducible rfl
      rotate_left
      · simp only [Act.put, List.setIfInBounds_toArray, List.set_cons_zero, List.set_cons_succ, i64_w, i32_w]
        rfl
      refine pure_ (i := 11) (N := some 48) (v := ?_) (a' := ?_) #[true, true, true, true, true, false, false, false, false, true, true, true, false, false, false, false, false, false, false, false, false, false] rfl rfl (by kernel_rfl) (fun _ _ _ h => h) (Or.inl ⟨by rfl, ?_⟩) ?_ ?_
      rotate_left
      · intro w'
        go_simp
        with_reducible rfl
      rotate_left
      · simp only [Act.put, List.setIfInBounds_toArray, List.set_cons_zero, List.set_cons_succ, i64_w, i32_w]
        rfl
      refine pure_ (i := 13) (N := some 50) (v := ?_) (a' := ?_) #[true, true, true, true, true, false, false, false, false, true, true, true, false, true, false, false, false, false, false, false, false, false] rfl rfl (by kernel_rfl) (fun _ _ _ h => h) (Or.inl ⟨by rfl, ?_⟩) ?_ ?_
      rotate_left
      · intro w'
        go_simp
        with_reducible rfl
      rotate_left
      · simp only [Act.put, List.setIfInBounds_toArray, List.set_cons_zero, List.set_cons_succ, i64_w, i32_w]
        rfl
      refine take_ (i := 5) (N := some 42) (v := ?_) (a' := ?_) #[true, true, true, true, true, true, false, false, false, true, true, true, false, true, false, false, false, false, false, false, false, false] rfl rfl (by kernel_rfl) (fun _ _ _ h => h) (Or.inl ⟨by rfl, ?_⟩) hHeld ?_ ?_
      rotate_left
      · rintro w' ⟨s0, s1, s2, s3, s4⟩
        go_simp
        with_reducible rfl
      rotate_left
      · simp only [Act.put, List.setIfInBounds_toArray, List.set_cons_zero, List.set_cons_succ, i64_w, i32_w]
        rfl
      refine take_ (i := 6) (N := some 43) (v := ?_) (a' := ?_) #[true, true, true, true, true, true, true, false, false, true, true, true, false, true, false, false, false, false, false, false, false, false] rfl rfl (by kernel_rfl) (fun _ _ _ h => h) (Or.inl ⟨by rfl, ?_⟩) hHeld ?_ ?_
      rotate_left
      · rintro w' ⟨s0, s1, s2, s3, s4⟩
        go_simp
        with_reducible rfl
      rotate_left
      · simp only [Act.put, List.setIfInBounds_toArray, List.set_cons_zero, List.set_cons_succ, i64_w, i32_w]
        rfl
      refine take_ (i := 12) (N := some 49) (v := ?_) (a' := ?_) #[true, true, true, true, true, true, true, false, false, true, true, true, true, true, false, false, false, false, false, false, false, false] rfl rfl (by kernel_rfl) (fun _ _ _ h => h) (Or.inl ⟨by rfl, ?_⟩) hHeld ?_ ?_
      rotate_left
      · rintro w' ⟨s0, s1, s2, s3, s4⟩
        go_simp
        with_reducible rfl
      rotate_left
      · simp only [Act.put, List.setIfInBounds_toArray, List.set_cons_zero, List.set_cons_succ, i64_w, i32_w]
        rfl
      refine join_ (σ := Nat × Nat × Nat × Nat) 7 #[true, true, true, true, true, true, true, true, true, true, true, true, true, true, true, false, false, false, false, false, false, false] (fun q => [(44, .slice (some ⟨q.1, 0, none⟩) 1 1), (45, .slice (some ⟨q.2.1, 0, none⟩) (g.st.length + 1) q.2.2.1), (51, .slice (some ⟨q.2.2.2, 0, none⟩) 1 1)]) (fun q w' => V.grownBy w' (Value.ownBlock (.slice A g.st.length c)) ∧ ((Value.ownBlock (.slice A g.st.length c)) = some q.2.1 ∨ V.heap.size ≤ q.2.1) ∧ Flat k53 53 base w' (.slice (some ⟨q.2.1, 0, none⟩) (g.st.length + 1) q.2.2.1) (g.st ++ [s]) ∧ w'.heap[q.2.2.2]? = some (.cells #[.pointer (some ⟨nb, 0, none⟩)] 67 (0, 0)) ∧ V.heap.size ≤ q.2.2.2) ?_ ?_
      rotate_left
      · intro hCont
        refine two_ (i := 7) (j := 14) (Ni := some 44) (Nj := some 51) #[true, true, true, true, true, true, true, true, false, true, true, true, true, true, false, false, false, false, false, false, false, false] #[true, true, true, true, true, true, true, false, false, true, true, true, true, true, true, false, false, false, false, false, false, false] rfl rfl rfl rfl (by kernel_rfl) (by decide) (by decide) (fun K hK => ?_) (fun K hK => ?_)
        · skip
          refine value_ (w1 := ?_) (v := ?_) (by rfl) rfl ?_ ?_
          rotate_left 2
          · go_simp
            constructor
            · rfl
            · rfl
          refine hK.out _ _ ⟨(mk _ (World.grownBy.trans (grown_drew9 V _) (World.grownBy_alloc _ _ _))).1, (mk _ (World.grownBy.trans (grown_drew9 V _) (World.grownBy_alloc _ _ _))).2.1, (mk _ (World.grownBy.trans (grown_drew9 V _) (World.grownBy_alloc _ _ _))).2.2.1, (mk _ (World.grownBy.trans (grown_drew9 V _) (World.grownBy_alloc _ _ _))).2.2.2.1, (mk _ (World.grownBy.trans (grown_drew9 V _) (World.grownBy_alloc _ _ _))).2.2.2.2⟩ (fun hHeld => ?_)
          clear hK K
          refine norm_ (a' := ?_) ?_ ?_
          rotate_left
          · show Act.put _ (some 44) _ = _
            simp only [Act.put, List.setIfInBounds_toArray, List.set_cons_zero, List.set_cons_succ, i64_w, i32_w]
            rfl
          refine two_ (i := 8) (j := 14) (Ni := some 45) (Nj := some 51) #[true, true, true, true, true, true, true, true, true, true, true, true, true, true, false, false, false, false, false, false, false, false] #[true, true, true, true, true, true, true, true, false, true, true, true, true, true, true, false, false, false, false, false, false, false] rfl rfl rfl rfl (by kernel_rfl) (by decide) (by decide) (fun K hK => ?_) (fun K hK => ?_)
          · skip
            refine step_append_flat (d := k53) rfl (.tmp 42) (.tmp 44) 45 rfl base 53 iS _ 32 Try.underlying45 iS1 iS2 iS3 iS4 rfl (by decide) (.slice A g.st.length c) g.st (by rfl) ((FS.grown (row := none) (grown_drew9 V none) (fun _ h => by cases h)).grown (row := none) (World.grownBy_alloc _ _ none) (fun _ h => by cases h)) s _ (k53_mkM _ _ _ _) V.heap.size _ 53 (by rfl) (blk_new9 rfl) (by have := HM.out; unfold maxLen; omega) HM.out (Nat.le_trans hbs (World.grownBy.trans (grown_drew9 V none) (World.grownBy_alloc _ _ none)).size) ?_
            intro gS cS wS hFS hGS hAS hLS
            refine hK.out _ _ ⟨(mk _ (World.grownBy.trans (World.grownBy.trans (grown_drew9 V _) (World.grownBy_alloc _ _ _)) hGS)).1, (mk _ (World.grownBy.trans (World.grownBy.trans (grown_drew9 V _) (World.grownBy_alloc _ _ _)) hGS)).2.1, (mk _ (World.grownBy.trans (World.grownBy.trans (grown_drew9 V _) (World.grownBy_alloc _ _ _)) hGS)).2.2.1, (mk _ (World.grownBy.trans (World.grownBy.trans (grown_drew9 V _) (World.grownBy_alloc _ _ _)) hGS)).2.2.2.1, (mk _ (World.grownBy.trans (World.grownBy.trans (grown_drew9 V _) (World.grownBy_alloc _ _ _)) hGS)).2.2.2.2⟩ (fun hHeld => ?_)
            clear hK K
            refine norm_ (a' := ?_) ?_ ?_
            rotate_left
            · show Act.put _ (some 45) _ = _
              simp only [Act.put, List.setIfInBounds_toArray, List.set_cons_zero, List.set_cons_succ, i64_w, i32_w]
              rfl
            refine one_ (i := 14) (N := some 51) #[true, true, true, true, true, true, true, true, true, true, true, true, true, true, true, false, false, false, false, false, false, false] rfl rfl (by kernel_rfl) (by decide) (fun K hK => ?_)
            refine value_ (w1 := ?_) (v := ?_) (by rfl) rfl ?_ ?_
            rotate_left 2
            · go_simp
              constructor
              · rfl
              · rfl
            refine hK.out _ _ ⟨(mk _ (World.grownBy.trans (World.grownBy.trans (World.grownBy.trans (grown_drew9 V _) (World.grownBy_alloc _ _ _)) hGS) (World.grownBy_alloc _ _ _))).1, (mk _ (World.grownBy.trans (World.grownBy.trans (World.grownBy.trans (grown_drew9 V _) (World.grownBy_alloc _ _ _)) hGS) (World.grownBy_alloc _ _ _))).2.1, (mk _ (World.grownBy.trans (World.grownBy.trans (World.grownBy.trans (grown_drew9 V _) (World.grownBy_alloc _ _ _)) hGS) (World.grownBy_alloc _ _ _))).2.2.1, (mk _ (World.grownBy.trans (World.grownBy.trans (World.grownBy.trans (grown_drew9 V _) (World.grownBy_alloc _ _ _)) hGS) (World.grownBy_alloc _ _ _))).2.2.2.1, (mk _ (World.grownBy.trans (World.grownBy.trans (World.grownBy.trans (grown_drew9 V _) (World.grownBy_alloc _ _ _)) hGS) (World.grownBy_alloc _ _ _))).2.2.2.2⟩ (fun hHeld => ?_)
            clear hK K
            refine norm_ (a' := ?_) ?_ ?_
            rotate_left
            · show Act.put _ (some 51) _ = _
              simp only [Act.put, List.setIfInBounds_toArray, List.set_cons_zero, List.set_cons_succ, i64_w, i32_w]
              rfl
            exact norm_ (by simp only [putAll, Act.put, List.setIfInBounds_toArray, List.set_cons_zero, List.set_cons_succ]) (hCont (V.heap.size, gS, cS, wS.heap.size) _ ⟨(World.grownBy.trans (World.grownBy.trans (World.grownBy.trans (grown_drew9 V _) (World.grownBy_alloc _ _ _)) hGS) (World.grownBy_alloc _ _ _)), hAS.elim .inl (fun h => .inr (Nat.le_trans (World.grownBy.trans (grown_drew9 V none) (World.grownBy_alloc _ _ none)).size (Nat.le_of_eq h.symm))), (hFS.grown (row := none) (World.grownBy_alloc _ _ none) (fun _ h => by cases h)), (blk_new _ _), ((World.grownBy.trans (World.grownBy.trans (grown_drew9 V (Value.ownBlock (.slice A g.st.length c))) (World.grownBy_alloc _ _ (Value.ownBlock (.slice A g.st.length c)))) hGS)).size⟩)
          · skip
            refine value_ (w1 := ?_) (v := ?_) (by rfl) rfl ?_ ?_
            rotate_left 2
            · go_simp
              constructor
              · rfl
              · rfl
            refine hK.out _ _ ⟨(mk _ (World.grownBy.trans (World.grownBy.trans (grown_drew9 V _) (World.grownBy_alloc _ _ _)) (World.grownBy_alloc _ _ _))).1, (mk _ (World.grownBy.trans (World.grownBy.trans (grown_drew9 V _) (World.grownBy_alloc _ _ _)) (World.grownBy_alloc _ _ _))).2.1, (mk _ (World.grownBy.trans (World.grownBy.trans (grown_drew9 V _) (World.grownBy_alloc _ _ _)) (World.grownBy_alloc _ _ _))).2.2.1, (mk _ (World.grownBy.trans (World.grownBy.trans (grown_drew9 V _) (World.grownBy_alloc _ _ _)) (World.grownBy_alloc _ _ _))).2.2.2.1, (mk _ (World.grownBy.trans (World.grownBy.trans (grown_drew9 V _) (World.grownBy_alloc _ _ _)) (World.grownBy_alloc _ _ _))).2.2.2.2⟩ (fun hHeld => ?_)
            clear hK K
            refine norm_ (a' := ?_) ?_ ?_
            rotate_left
            · show Act.put _ (some 51) _ = _
              simp only [Act.put, List.setIfInBounds_toArray, List.set_cons_zero, List.set_cons_succ, i64_w, i32_w]
              rfl
            refine one_ (i := 8) (N := some 45) #[true, true, true, true, true, true, true, true, true, true, true, true, true, true, true, false, false, false, false, false, false, false] rfl rfl (by kernel_rfl) (by decide) (fun K hK => ?_)
            refine step_append_flat (d := k53) rfl (.tmp 42) (.tmp 44) 45 rfl base 53 iS _ 32 Try.underlying45 iS1 iS2 iS3 iS4 rfl (by decide) (.slice A g.st.length c) g.st (by rfl) (((FS.grown (row := none) (grown_drew9 V none) (fun _ h => by cases h)).grown (row := none) (World.grownBy_alloc _ _ none) (fun _ h => by cases h)).grown (row := none) (World.grownBy_alloc _ _ none) (fun _ h => by cases h)) s _ (k53_mkM _ _ _ _) V.heap.size _ 53 (by rfl) (blk_alloc (blk_new9 rfl) _) (by have := HM.out; unfold maxLen; omega) HM.out (Nat.le_trans hbs (World.grownBy.trans (World.grownBy.trans (grown_drew9 V none) (World.grownBy_alloc _ _ none)) (World.grownBy_alloc _ _ none)).size) ?_
            intro gS cS wS hFS hGS hAS hLS
            refine hK.out _ _ ⟨(mk _ (World.grownBy.trans (World.grownBy.trans (World.grownBy.trans (grown_drew9 V _) (World.grownBy_alloc _ _ _)) (World.grownBy_alloc _ _ _)) hGS)).1, (mk _ (World.grownBy.trans (World.grownBy.trans (World.grownBy.trans (grown_drew9 V _) (World.grownBy_alloc _ _ _)) (World.grownBy_alloc _ _ _)) hGS)).2.1, (mk _ (World.grownBy.trans (World.grownBy.trans (World.grownBy.trans (grown_drew9 V _) (World.grownBy_alloc _ _ _)) (World.grownBy_alloc _ _ _)) hGS)).2.2.1, (mk _ (World.grownBy.trans (World.grownBy.trans (World.grownBy.trans (grown_drew9 V _) (World.grownBy_alloc _ _ _)) (World.grownBy_alloc _ _ _)) hGS)).2.2.2.1, (mk _ (World.grownBy.trans (World.grownBy.trans (World.grownBy.trans (grown_drew9 V _) (World.grownBy_alloc _ _ _)) (World.grownBy_alloc _ _ _)) hGS)).2.2.2.2⟩ (fun hHeld => ?_)
            clear hK K
            refine norm_ (a' := ?_) ?_ ?_
            rotate_left
            · show Act.put _ (some 45) _ = _
              simp only [Act.put, List.setIfInBounds_toArray, List.set_cons_zero, List.set_cons_succ, i64_w, i32_w]
              rfl
            exact norm_ (by simp only [putAll, Act.put, List.setIfInBounds_toArray, List.set_cons_zero, List.set_cons_succ]) (hCont (V.heap.size, gS, cS, V.heap.size + 1) _ ⟨(World.grownBy.trans (World.grownBy.trans (World.grownBy.trans (grown_drew9 V _) (World.grownBy_alloc _ _ _)) (World.grownBy_alloc _ _ _)) hGS), hAS.elim .inl (fun h => .inr (Nat.le_trans (World.grownBy.trans (World.grownBy.trans (grown_drew9 V none) (World.grownBy_alloc _ _ none)) (World.grownBy_alloc _ _ none)).size (Nat.le_of_eq h.symm))), hFS, (blk_grown9 hGS (blk_drew (blk_new9 (by simp))) (fun e => by have := hFSlt _ e.symm; simp at this; try omega)), (by simp; try omega)⟩)
        · skip
          refine value_ (w1 := ?_) (v := ?_) (by rfl) rfl ?_ ?_
          rotate_left 2
          · go_simp
            constructor
            · rfl
            · rfl
          refine hK.out _ _ ⟨(mk _ (World.grownBy.trans (grown_drew9 V _) (World.grownBy_alloc _ _ _))).1, (mk _ (World.grownBy.trans (grown_drew9 V _) (World.grownBy_alloc _ _ _))).2.1, (mk _ (World.grownBy.trans (grown_drew9 V _) (World.grownBy_alloc _ _ _))).2.2.1, (mk _ (World.grownBy.trans (grown_drew9 V _) (World.grownBy_alloc _ _ _))).2.2.2.1, (mk _ (World.grownBy.trans (grown_drew9 V _) (World.grownBy_alloc _ _ _))).2.2.2.2⟩ (fun hHeld => ?_)
          clear hK K
          refine norm_ (a' := ?_) ?_ ?_
          rotate_left
          · show Act.put _ (some 51) _ = _
            simp only [Act.put, List.setIfInBounds_toArray, List.set_cons_zero, List.set_cons_succ, i64_w, i32_w]
            rfl
          refine one_ (i := 7) (N := some 44) #[true, true, true, true, true, true, true, true, false, true, true, true, true, true, true, false, false, false, false, false, false, false] rfl rfl (by kernel_rfl) (by decide) (fun K hK => ?_)
          refine value_ (w1 := ?_) (v := ?_) (by rfl) rfl ?_ ?_
          rotate_left 2
          · go_simp
            constructor
            · rfl
            · rfl
          refine hK.out _ _ ⟨(mk _ (World.grownBy.trans (World.grownBy.trans (grown_drew9 V _) (World.grownBy_alloc _ _ _)) (World.grownBy_alloc _ _ _))).1, (mk _ (World.grownBy.trans (World.grownBy.trans (grown_drew9 V _) (World.grownBy_alloc _ _ _)) (World.grownBy_alloc _ _ _))).2.1, (mk _ (World.grownBy.trans (World.grownBy.trans (grown_drew9 V _) (World.grownBy_alloc _ _ _)) (World.grownBy_alloc _ _ _))).2.2.1, (mk _ (World.grownBy.trans (World.grownBy.trans (grown_drew9 V _) (World.grownBy_alloc _ _ _)) (World.grownBy_alloc _ _ _))).2.2.2.1, (mk _ (World.grownBy.trans (World.grownBy.trans (grown_drew9 V _) (World.grownBy_alloc _ _ _)) (World.grownBy_alloc _ _ _))).2.2.2.2⟩ (fun hHeld => ?_)
          clear hK K
          refine norm_ (a' := ?_) ?_ ?_
          rotate_left
          · show Act.put _ (some 44) _ = _
            simp only [Act.put, List.setIfInBounds_toArray, List.set_cons_zero, List.set_cons_succ, i64_w, i32_w]
            rfl
          refine one_ (i := 8) (N := some 45) #[true, true, true, true, true, true, true, true, true, true, true, true, true, true, true, false, false, false, false, false, false, false] rfl rfl (by kernel_rfl) (by decide) (fun K hK => ?_)
          refine step_append_flat (d := k53) rfl (.tmp 42) (.tmp 44) 45 rfl base 53 iS _ 32 Try.underlying45 iS1 iS2 iS3 iS4 rfl (by decide) (.slice A g.st.length c) g.st (by rfl) (((FS.grown (row := none) (grown_drew9 V none) (fun _ h => by cases h)).grown (row := none) (World.grownBy_alloc _ _ none) (fun _ h => by cases h)).grown (row := none) (World.grownBy_alloc _ _ none) (fun _ h => by cases h)) s _ (k53_mkM _ _ _ _) (V.heap.size + 1) _ 53 (by rfl) (blk_new9 (by simp)) (by have := HM.out; unfold maxLen; omega) HM.out (Nat.le_trans hbs (World.grownBy.trans (World.grownBy.trans (grown_drew9 V none) (World.grownBy_alloc _ _ none)) (World.grownBy_alloc _ _ none)).size) ?_
          intro gS cS wS hFS hGS hAS hLS
          refine hK.out _ _ ⟨(mk _ (World.grownBy.trans (World.grownBy.trans (World.grownBy.trans (grown_drew9 V _) (World.grownBy_alloc _ _ _)) (World.grownBy_alloc _ _ _)) hGS)).1, (mk _ (World.grownBy.trans (World.grownBy.trans (World.grownBy.trans (grown_drew9 V _) (World.grownBy_alloc _ _ _)) (World.grownBy_alloc _ _ _)) hGS)).2.1, (mk _ (World.grownBy.trans (World.grownBy.trans (World.grownBy.trans (grown_drew9 V _) (World.grownBy_alloc _ _ _)) (World.grownBy_alloc _ _ _)) hGS)).2.2.1, (mk _ (World.grownBy.trans (World.grownBy.trans (World.grownBy.trans (grown_drew9 V _) (World.grownBy_alloc _ _ _)) (World.grownBy_alloc _ _ _)) hGS)).2.2.2.1, (mk _ (World.grownBy.trans (World.grownBy.trans (World.grownBy.trans (grown_drew9 V _) (World.grownBy_alloc _ _ _)) (World.grownBy_alloc _ _ _)) hGS)).2.2.2.2⟩ (fun hHeld => ?_)
          clear hK K
          refine norm_ (a' := ?_) ?_ ?_
          rotate_left
          · show Act.put _ (some 45) _ = _
            simp only [Act.put, List.setIfInBounds_toArray, List.set_cons_zero, List.set_cons_succ, i64_w, i32_w]
            rfl
          exact norm_ (by simp only [putAll, Act.put, List.setIfInBounds_toArray, List.set_cons_zero, List.set_cons_succ]) (hCont (V.heap.size + 1, gS, cS, V.heap.size) _ ⟨(World.grownBy.trans (World.grownBy.trans (World.grownBy.trans (grown_drew9 V _) (World.grownBy_alloc _ _ _)) (World.grownBy_alloc _ _ _)) hGS), hAS.elim .inl (fun h => .inr (Nat.le_trans (World.grownBy.trans (World.grownBy.trans (grown_drew9 V none) (World.grownBy_alloc _ _ none)) (World.grownBy_alloc _ _ none)).size (Nat.le_of_eq h.symm))), hFS, (blk_grown9 hGS (blk_drew (blk_alloc (blk_new9 rfl) _)) (fun e => by have := hFSlt _ e.symm; simp at this; try omega)), (by simp; try omega)⟩)
      rintro ⟨B4, gS, cS, B5⟩ w' ⟨hG, hA, hF, hB, hBl⟩
      have hFT := FT.grown hG apartST
      refine norm_ (a' := ?_) ?_ ?_
      rotate_left
      · simp only [putAll, Act.put, List.setIfInBounds_toArray, List.set_cons_zero, List.set_cons_succ]
        rfl
      refine last_ (i := 15) (N := some 52) #[true, true, true, true, true, true, true, true, true, true, true, true, true, true, true, true, false, false, false, false, false, false] rfl rfl (by kernel_rfl) (by decide) (fun K hK => ?_)
      refine step_append_flat (d := kP) rfl (.tmp 49) (.tmp 51) 68 rfl base 67 iT _ 8 Try.underlying68 iT1 iT2 iT3 iT4 rfl (by decide) (.slice AT bs.length cT) bs (by rfl) hFT nb _ rfl _ _ 67 (by rfl) hB (by have := HM2.out; unfold maxLen; omega) HM2.out (Nat.le_trans hbs hG.size) ?_
      intro gT cT2 wT hFT2 hGT hAT hLT
      have hQ := nodeEnd V w' wT BG3 ne1 ne2 hG hGT
      obtain ⟨q0, q1, q2, q3⟩ := hQ
      refine hK.out _ _ ?_
      clear hK K
      refine norm_ (a' := ?_) ?_ ?_
      rotate_left
      · show Act.put _ (some 52) _ = _
        simp only [Act.put, List.setIfInBounds_toArray, List.set_cons_zero, List.set_cons_succ, i64_w, i32_w]
        rfl
      refine pure_ (i := 16) (N := some 53) (v := ?_) (a' := ?_) #[true, true, true, true, true, true, true, true, true, true, true, true, true, true, true, true, true, false, false, false, false, false] rfl rfl (by kernel_rfl) (fun _ _ _ h => h) (Or.inl ⟨by rfl, ?_⟩) ?_ ?_
      rotate_left
      · intro w'
        go_simp
        with_reducible rfl
      rotate_left
      · simp only [Act.put, List.setIfInBounds_toArray, List.set_cons_zero, List.set_cons_succ, i64_w, i32_w]
        rfl
      refine pure_ (i := 17) (N := some 54) (v := ?_) (a' := ?_) #[true, true, true, true, true, true, true, true, true, true, true, true, true, true, true, true, true, true, false, false, false, false] rfl rfl (by kernel_rfl) (fun _ _ _ h => h) (Or.inl ⟨by rfl, ?_⟩) ?_ ?_
      rotate_left
      · intro w'
        go_simp
        with_reducible rfl
      rotate_left
      · simp only [Act.put, List.setIfInBounds_toArray, List.set_cons_zero, List.set_cons_succ, i64_w, i32_w]
        rfl
      refine last_ (i := 18) (N := none) #[true, true, true, true, true, true, true, true, true, true, true, true, true, true, true, true, true, true, true, false, false, false] rfl rfl (by kernel_rfl) (by decide) (fun K hK => ?_)
      refine skip_ (w1 := ?_) (by rfl) rfl ?_ ?_
      rotate_left
      · go_simp
        rfl
      refine hK.out _ _ ?_
      clear hK K
      refine pure_ (i := 19) (N := some 55) (v := ?_) (a' := ?_) #[true, true, true, true, true, true, true, true, true, true, true, true, true, true, true, true, true, true, true, true, false, false] rfl rfl (by kernel_rfl) (fun _ _ _ h => h) (Or.inl ⟨by rfl, ?_⟩) ?_ ?_
      rotate_left
      · intro w'
        go_simp
        with_reducible rfl
      rotate_left
      · simp only [Act.put, List.setIfInBounds_toArray, List.set_cons_zero, List.set_cons_succ, i64_w, i32_w]
        rfl
      refine pure_ (i := 20) (N := some 56) (v := ?_) (a' := ?_) #[true, true, true, true, true, true, true, true, true, true, true, true, true, true, true, true, true, true, true, true, true, false] rfl rfl (by kernel_rfl) (fun _ _ _ h => h) (Or.inl ⟨by rfl, ?_⟩) ?_ ?_
      rotate_left
      · intro w'
        go_simp
        with_reducible rfl
      rotate_left
      · simp only [Act.put, List.setIfInBounds_toArray, List.set_cons_zero, List.set_cons_succ, i64_w, i32_w]
        rfl
      refine last_ (i := 21) (N := none) #[true, true, true, true, true, true, true, true, true, true, true, true, true, true, true, true, true, true, true, true, true, true] rfl rfl (by kernel_rfl) (by decide) (fun K hK => ?_)
      have q4 := (cell_put9 wT g.b (.slice (some ⟨gS, 0, none⟩) (g.st.length + 1) cS) q1 q3)
      obtain ⟨q5, q6⟩ := q4
      refine skip_ (w1 := ?_) (by rfl) rfl ?_ ?_
      rotate_left
      · go_simp
        rfl
      refine hK.out _ _ ?_
      clear hK K
      refine done_ (by kernel_rfl) ?_
      dsimp only at hA hF hB hBl
      rw [HMD.out] at BN
      have END := Aside0.mk (nodes_made hN hg hv hvT HT1.out hT2 FT0.out hVB BN hnb hG hA hF hFT2 hGT hAT _ rfl)
      clear hA hF hB hBl BN BG3 BS3 FS FT FS0 FT0 hG hGT hAT hFT2 hLT q0 q1 q2 q3 q5 q6 hHeld hFT apartST mk ne1 ne2 ne4 ne5 hFSlt
      go_wp2
      go_ret2
      exact ⟨_, _, _, by first | rfl | simp, END.out⟩
    obtain ⟨k1, rfl⟩ : ∃ k1, gk = k1 + 1 := ⟨gk - 1, by omega⟩
    have hw1 : IntKind.i64.wrap (i + 1) = i + 1 := by rw [IntKind.wrap_i64]; omega
    have c1b : decide (i < (g.st.length : Int)) = true := decide_eq_true c1
    obtain ⟨ad, e1, x0, x1, x2⟩ := at_T53 (Kd.C_below hC HB.out) i g0 c1
    subst e1
    have hy : sameS (rd_T53 g.st i) s = false := HM3.out _ (by
      have hr := rd_some g.st i.toNat (by omega)
      rw [Int.toNat_of_nonneg g0] at hr
      exact List.mem_of_getElem? hr)
    have HS : Aside0 (¬ sameS (rd_T53 g.st i) s = true) := ⟨by rw [hy]; decide⟩
    clear hy
    generalize rd_T53 g.st i = y at *
    have hb1 := below_alloc HB.out (.cells #[.int .i64 y.f0, .string y.f1, .int .i64 y.f2] 53)
    have BK := blk_new wr (.cells #[.int .i64 y.f0, .string y.f1, .int .i64 y.f2] 53)
    have BS2 := blk_alloc (blk_below BS HB.out) (.cells #[.int .i64 y.f0, .string y.f1, .int .i64 y.f2] 53)
    have BG3 := blk_alloc (blk_below BG2 HB.out) (.cells #[.int .i64 y.f0, .string y.f1, .int .i64 y.f2] 53)
    have c1c := eq_true c1
    have g0c := eq_true g0
    have hk : Aside0 (0 ≤ i + 1 ∧ i + 1 ≤ (g.st.length : Int) ∧ (i + 1).toNat + k1 = g.st.length + 1) := ⟨by omega⟩
    clear c1 g0 gl gk1 HK
    go_upto_region 4 with fail
    generalize wr.alloc (.cells #[.int .i64 y.f0, .string y.f1, .int .i64 y.f2] 53) = V at hb1 BK BS2 BG3 ⊢
    have m0 := (blk_cell BK 0).trans rfl
    have m1 := (blk_cell BK 1).trans rfl
    have m2 := (blk_cell BK 2).trans rfl
    have n0 := (blk_cell BS2 0).trans rfl
    have n1 := (blk_cell BS2 1).trans rfl
    have n2 := (blk_cell BS2 2).trans rfl
    have z1 := (blk_cell BG3 1).trans rfl
    have HV := Aside0.mk hb1
    have HB0 := Aside0.mk hb0
    clear hb1 hb0 HB BK BS2 BG3
    by_cases e0 : y.f0 = s.f0
    · by_cases e1 : y.f1.toList = s.f1.toList
      · by_cases e2 : y.f2 = s.f2
        · exact absurd (by unfold sameS; rw [decide_eq_true e0, decide_eq_true e1, decide_eq_true e2]; rfl) HS.out
        · go_wp2
          go_roundg k1
          case measure => omega
          case rel => exact ⟨i + 1, rfl, hk, HV⟩
      · go_wp2
        go_roundg k1
        case measure => omega
        case rel => exact ⟨i + 1, rfl, hk, HV⟩
    · go_wp2
      go_roundg k1
      case measure => omega
      case rel => exact ⟨i + 1, rfl, hk, HV⟩
end Go.Proofs.Ythlneooboiphdaa.PTrieShares
