/- quarryref05.Walk and Bad: the walk. -/
import Derived.Test.YthlneooboiphdaaU8Ref
import Derived.Test.YthlneooboiphdaaFlatRow
import Derived.Deep.QuietTactic
import Derived.Lib.Strings
import Derived.BigQuiet
set_option linter.unusedVariables false
set_option linter.unusedSimpArgs false
namespace Go.Proofs.Ythlneooboiphdaa
open Go.RowKit Go.Proofs.YthlneooboiphdaaW.PrintWords Go.Proofs.YthlneooboiphdaaW.PrintLast Go.Proofs.YthlneooboiphdaaW.PrintMore Go.Proofs.Ythlneooboiphdaa.PBeginsF
theorem info5_ {P : Program} {t : TypeId} {z : Value} {n b : Nat} (h : (P.info? t).map (fun i => (i.zero, i.size, i.bytes)) = some (some z, n, b)) : ∃ i, P.info? t = some i ∧ i.zero = some z ∧ i.size = n ∧ i.bytes = b := by
  cases hi : P.info? t with
  | none => rw [hi] at h; cases h
  | some i =>
    rw [hi] at h
    injection h with h
    injection h with h1 h2
    injection h2 with h2 h3
    exact ⟨i, rfl, h1, h2, h3⟩
theorem infoInt : (Try.prog.info? 3).map (fun i => (i.zero, i.size, i.bytes)) = some (some (.int .i64 0), 1, 8) := by kernel_rfl
theorem infoRune : (Try.prog.info? 21).map (fun i => (i.zero, i.size, i.bytes)) = some (some (.int .i32 0), 1, 4) := by kernel_rfl
theorem bytesFrom_drop (s : ByteArray) (i m : Nat) : (bytesFrom s i).drop m = bytesFrom s (i + m) := by
  unfold bytesFrom
  rw [← List.map_drop, List.drop_drop]
theorem bytesFrom_take (s : ByteArray) (i m : Nat) (h : i + m < s.size) : (bytesFrom s i).take (m + 1) = (bytesFrom s i).take m ++ [bt s ((i + m : Nat) : Int)] := by
  rw [List.take_add_one]
  congr 1
  have h2 : (bytesFrom s i)[m]? = ((bytesFrom s i).drop m)[0]? := by rw [List.getElem?_drop]; rfl
  rw [h2, bytesFrom_drop, bytesFrom_cons s (i + m) h]
  rfl
theorem bytesFrom_len (s : ByteArray) (i : Nat) : (bytesFrom s i).length = s.size - i := by
  unfold bytesFrom
  rw [List.length_map, List.length_drop, data_length]
theorem bytesOf_cut (s : ByteArray) (a b : Nat) : bytesOf (s.extract a b) = (bytesFrom s a).take (b - a) := by
  unfold bytesOf bytesFrom
  rw [Lib.extract_data, ← List.map_take]
/-- The bytes of a text, laid anew. -/
theorem bytes_C (W : World) (s : ByteArray) (hs : s.size ≤ 9223372036854775807) : Kd.C (Kd.int .u8) (Lib.bytesWorld W 5 s) (some ⟨W.heap.size, 0, none⟩) (bytesOf s).length (bytesOf s) := by
  have h := bytes_reads W 5 s hs
  rw [bytesOf_length]
  refine ⟨bytesOf_length s, hs, fun hn => ?_⟩
  obtain ⟨ad, e, hc⟩ := h.2.2 hn
  refine ⟨ad, e, fun j p hj => ⟨[.int .u8 p], rfl, rfl, fun i u hu => ?_⟩⟩
  have hjl := (List.getElem?_eq_some_iff.1 hj).1
  have h1 := hc j (by rw [← bytesOf_length]; exact hjl)
  rw [List.getD_eq_getElem?_getD, hj] at h1
  have hi := (List.getElem?_eq_some_iff.1 hu).1
  have hi0 : i = 0 := by simpa using hi
  subst hi0
  obtain rfl : u = .int .u8 p := by simpa using hu.symm
  rw [show j * (Kd.int .u8).sz + 0 = j by show j * 1 + 0 = j; omega]
  exact h1
theorem scan_lo {lo hi lo2 hi2 n : Int} {l : List Int} : u8scan 0 lo hi n l = u8scan 0 lo2 hi2 n l := by
  cases l with
  | nil => rfl
  | cons x r => rfl
set_option maxHeartbeats 4000000 in
set_option maxRecDepth 100000 in
theorem ref05_Walk_calls (s : ByteArray) (hs : s.size ≤ 1073741824) (w : World) :
    Calls Try.prog 97 #[.string s] w fun e w' => (∃ v1 v2, e = .returned (.tuple #[v1, v2, .int .i64 (badOf s)])) ∧ Below w.heap.size w w' := by
  obtain ⟨iI, iI1, iI2, iI3, iI4⟩ := info5_ infoInt
  obtain ⟨iR, iR1, iR2, iR3, iR4⟩ := info5_ infoRune
  have HSZ := Aside0.mk hs
  clear hs
  go_enter Try.func97, Try.ntmps97
  go_wp2
  go_loopg [5, 6, 7] (s.size + 1) (fun kq v5 v6 v7 wr => ∃ (i lo hi : Int) (la lb : List Int), v7 = .int .i64 i ∧ Aside0 (0 ≤ i ∧ i ≤ (s.size : Int) ∧ i.toNat + kq = s.size + 1) ∧ Aside0 (badOf s = u8scan 0 lo hi i (bytesFrom s i.toNat)) ∧ Aside0 (Flat (Kd.int .i64) 3 w.heap.size wr v5 la ∧ (la.length : Int) ≤ i) ∧ Aside0 (Flat (Kd.int .i32) 21 w.heap.size wr v6 lb ∧ (lb.length : Int) ≤ i) ∧ Aside0 (Below w.heap.size w wr))
  case atStart => exact ⟨0, 0, 0, [], [], rfl, ⟨by omega, by omega, by omega⟩, ⟨rfl⟩, ⟨Flat.nil rfl _ _ _, by simp⟩, ⟨Flat.nil rfl _ _ _, by simp⟩, ⟨Below.refl _ _⟩⟩
  case round =>
    obtain ⟨i, lo, hi, la, lb, rfl, HK, HG, HA, HL, HB⟩ := hrel
    obtain ⟨g0, gl, gk1⟩ := HK.out
    obtain ⟨A5, c5, h5⟩ := HA.out.1.slice
    obtain ⟨A6, c6, h6⟩ := HL.out.1.slice
    subst h5
    subst h6
    by_cases c1 : i < (s.size : Int)
    · obtain ⟨k1, rfl⟩ : ∃ k1, gk = k1 + 1 := ⟨gk - 1, by omega⟩
      have c1b : decide (i < (s.size : Int)) = true := decide_eq_true c1
      have HI : Aside0 (0 ≤ i ∧ i < (s.size : Int) ∧ i.toNat + (k1 + 1) = s.size + 1) := ⟨g0, c1, gk1⟩
      have HG0 : Aside0 (∃ lo hi, Mid ((bytesFrom s i.toNat).take 0) 0 lo hi ∧ badOf s = u8scan 0 lo hi i (bytesFrom s i.toNat)) := ⟨lo, hi, .inl ⟨rfl, rfl⟩, HG.out⟩
      clear HK HG g0 gl gk1 c1
      go_wp2
      go_loopg [5, 6, 8, 9] 6 (fun kq v5 v6 v8 v9 wr2 => ∃ (n want lo hi : Int) (whole : Bool) (la lb : List Int), v8 = .int .i64 n ∧ v9 = .bool whole ∧ Aside0 (1 ≤ n ∧ n.toNat + kq = 7 ∧ i + n - 1 ≤ (s.size : Int)) ∧
        Aside0 (badOf s = u8scan want lo hi (i + n - 1) (bytesFrom s (i + n - 1).toNat) ∧ (whole = true → want = 0 ∧ 2 ≤ n) ∧ (whole = false → n ≤ 4 ∧ Mid ((bytesFrom s i.toNat).take (n - 1).toNat) want lo hi)) ∧
        Aside0 (Flat (Kd.int .i64) 3 w.heap.size wr2 v5 la ∧ (la.length : Int) ≤ i + (if whole then 1 else 0)) ∧ Aside0 (Flat (Kd.int .i32) 21 w.heap.size wr2 v6 lb ∧ (lb.length : Int) ≤ i + (if whole then 1 else 0)) ∧ Aside0 (Below w.heap.size w wr2))
      case atStart =>
        obtain ⟨lo2, hi2, hm, hb⟩ := HG0.out
        exact ⟨1, 0, lo2, hi2, false, la, lb, rfl, rfl, ⟨by decide, by decide, by have := HI.out; omega⟩, ⟨by rw [show i + 1 - 1 = i by omega]; exact hb, fun h => (by cases h), fun _ => ⟨by decide, hm⟩⟩, ⟨HA.out.1, by have := HA.out.2; simpa using this⟩, ⟨HL.out.1, by have := HL.out.2; simpa using this⟩, HB⟩
      case round =>
        clear HA HL HB HG0
        obtain ⟨n, want, lo, hi, whole, la, lb, rfl, rfl, HK, HG, HA, HL, HB⟩ := hrel
        obtain ⟨A5, c5, h5⟩ := HA.out.1.slice
        obtain ⟨A6, c6, h6⟩ := HL.out.1.slice
        subst h5
        subst h6
        have HSZ2 := HSZ.out
        cases whole with
        | true =>
          obtain ⟨rfl, hn2⟩ := HG.out.2.1 rfl
          have hk := HK.out
          have hii := HI.out
          have hw3 : IntKind.i64.wrap (i + n) = i + n := by rw [IntKind.wrap_i64]; omega
          have hw4 : IntKind.i64.wrap (i + n - 1) = i + n - 1 := by rw [IntKind.wrap_i64]; omega
          obtain ⟨k2, hk2⟩ : ∃ k2, k2 < k1 + 1 ∧ (i + n - 1).toNat + k2 = s.size + 1 := ⟨s.size + 1 - (i + n - 1).toNat, by omega, by omega⟩
          have HK2 : Aside0 (0 ≤ i + n - 1 ∧ i + n - 1 ≤ (s.size : Int) ∧ (i + n - 1).toNat + k2 = s.size + 1 ∧ k2 < k1 + 1) := ⟨by omega, by omega, hk2.2, hk2.1⟩
          have HA2 : Aside0 (Flat (Kd.int .i64) 3 w.heap.size wr (.slice A5 la.length c5) la ∧ (la.length : Int) ≤ i + n - 1) := ⟨HA.out.1, by have h := HA.out.2; rw [if_pos rfl] at h; omega⟩
          have HL2 : Aside0 (Flat (Kd.int .i32) 21 w.heap.size wr (.slice A6 lb.length c6) lb ∧ (lb.length : Int) ≤ i + n - 1) := ⟨HL.out.1, by have h := HL.out.2; rw [if_pos rfl] at h; omega⟩
          have HG2 := Aside0.mk HG.out.1
          clear hk hii hk2 HK HA HL HG hn2 HSZ2
          go_wp2
          go_roundg k2
          case measure => exact HK2.out.2.2.2
          case rel => exact ⟨i + n - 1, lo, hi, la, lb, rfl, ⟨HK2.out.1, HK2.out.2.1, HK2.out.2.2.1⟩, HG2, HA2, HL2, HB⟩
        | false =>
          obtain ⟨hn4, hm⟩ := HG.out.2.2 rfl
          have hk := HK.out
          have hii := HI.out
          have hw3 : IntKind.i64.wrap (i + n) = i + n := by rw [IntKind.wrap_i64]; omega
          have hw4 : IntKind.i64.wrap (i + n - 1) = i + n - 1 := by rw [IntKind.wrap_i64]; omega
          have hw5 : IntKind.i64.wrap (n + 1) = n + 1 := by rw [IntKind.wrap_i64]; omega
          have hbl : ((bytesFrom s i.toNat).take (n - 1).toNat).length = (n - 1).toNat := by rw [List.length_take, bytesFrom_len]; omega
          by_cases c2 : i + n > (s.size : Int)
          · have c2b : decide (i + n > (s.size : Int)) = true := decide_eq_true c2
            have hend : badOf s = (s.size : Int) := by
              rw [HG.out.1, bytesFrom_end s _ (by omega), u8scan]
              have hwant : 0 < want := by
                rcases hm with ⟨hb0, _⟩ | ⟨x, _, _, hw⟩ | ⟨x, y, l, u, _, _, hw, _⟩ | ⟨x, y, z, l, u, _, _, hw, _⟩
                · rw [hb0] at hbl
                  simp at hbl
                  omega
                · exact hw
                · exact hw
                · omega
              rw [if_pos hwant]
              omega
            have HEND := Aside0.mk hend
            clear hk hii hm hbl c2 HK HG HA HL hend HSZ2 hn4 HI
            go_wp2
            go_ret3
            exact ⟨⟨_, _, by rw [HEND.out]; rfl⟩, HB.out⟩
          · have c2b : decide (i + n > (s.size : Int)) = false := decide_eq_false c2
            have hpos : i.toNat + (n - 1).toNat < s.size := by omega
            have htk := bytesFrom_take s i.toNat (n - 1).toNat hpos
            have hbc := bytesFrom_cons s (i + n - 1).toNat (by omega)
            have hbt := bt_range s (((i + n - 1).toNat : Nat) : Int)
            have hst := begins_step hm hbt.1 hbt.2
            rw [show i.toNat + (n - 1).toNat = (i + n - 1).toNat by omega] at htk
            have hlist : bytesOf (s.extract i.toNat (i + n).toNat) = (bytesFrom s i.toNat).take (n - 1).toNat ++ [bt s (((i + n - 1).toNat : Nat) : Int)] := by
              rw [bytesOf_cut, ← htk, show (i + n).toNat - i.toNat = (n - 1).toNat + 1 by omega]
            have hsl : (s.extract i.toNat (i + n).toNat).size = n.toNat := by
              rw [← bytesOf_length, hlist, List.length_append, hbl]
              simp
              omega
            have hcut : bytesFrom s ((i + (n + 1) - 1)).toNat = bytesFrom s ((i + n - 1).toNat + 1) := by rw [show (i + (n + 1) - 1).toNat = (i + n - 1).toNat + 1 by omega]
            have htk2 : (bytesFrom s i.toNat).take (n + 1 - 1).toNat = (bytesFrom s i.toNat).take ((n - 1).toNat + 1) := by rw [show (n + 1 - 1).toNat = (n - 1).toNat + 1 by omega]
            rw [htk] at htk2
            have hC := bytes_C wr (s.extract i.toNat (i + n).toNat) (by omega)
            have kb := fun W => print_bytes (P := Try.prog) 9 129 5 Try.underlying9 Try.underlying129 Try.underlying5 (s.extract i.toNat (i + n).toNat) W
            have hbW := bytes_below HB.out HB.out.size 5 (s.extract i.toNat (i + n).toNat)
            have hbW0 := bytes_below (Below.refl wr.heap.size wr) (Nat.le_refl _) 5 (s.extract i.toNat (i + n).toNat)
            have s1 := eq_true (show 0 ≤ i by omega)
            have s2 := eq_true (show i ≤ i + n by omega)
            have s3 := eq_true (show i + n ≤ (s.size : Int) by omega)
            obtain ⟨k2, rfl⟩ : ∃ k2, gk = k2 + 1 := ⟨gk - 1, by omega⟩
            have hcall := fun r1 r2 r3 kf hf => quarryref05_Begins.calls kf (some ⟨wr.heap.size, 0, none⟩) (grownCap wr ((i + n).toNat - i.toNat) 0 5) (bytesOf (s.extract i.toNat (i + n).toNat)) r1 r2 r3 (Lib.bytesWorld wr 5 (s.extract i.toNat (i + n).toNat)) hC (by rw [bytesOf_length, hsl, show (i + n).toNat - i.toNat = n.toNat by omega]; exact grownCap_ge _ _ _ _) hf
            rw [show (bytesOf (s.extract i.toNat (i + n).toNat)).length = (i + n).toNat - i.toNat by rw [bytesOf_length, hsl]; omega] at hcall
            cases hu : u8step want lo hi (bt s (((i + n - 1).toNat : Nat) : Int)) with
            | none =>
              obtain ⟨kf, rf, hf⟩ := hst.1 hu
              rw [← hlist] at hf
              have hend : badOf s = i + n - 1 := by rw [HG.out.1, hbc, u8scan, hu]
              have HEND := Aside0.mk hend
              have HCALL := Aside0.mk (hcall _ _ _ kf hf)
              have HBW := Aside0.mk hbW
              clear hcall hst hlist hsl hcut htk2 htk hC hbW hbW0 hbc hbt hpos hf hend hu hm hbl hk hii hn4 HK HG HA HL HI HSZ2 c2
              go_wp2_with (first
                | (go_at_call 98; refine HCALL.out.mono ?_; rintro e w2 ⟨rfl, hd⟩; have MB := Aside0.mk (below_then HBW.out HBW.out.size hd.below); clear hd HCALL HBW)
                | fail)
              go_ret3
              exact ⟨⟨_, _, by rw [HEND.out]; rfl⟩, MB.out⟩
            | some v =>
              obtain ⟨a, l, u⟩ := v
              obtain ⟨⟨kf, rf, hf⟩, hmid⟩ := hst.2 a l u hu
              rw [← hlist] at hf
              have hsc : badOf s = u8scan a l u (i + (n + 1) - 1) (bytesFrom s (i + (n + 1) - 1).toNat) := by
                rw [HG.out.1, hbc, u8scan, hu, hcut]
                show u8scan a l u (i + n - 1 + 1) _ = _
                rw [show i + n - 1 + 1 = i + (n + 1) - 1 by omega]
              have ha0 : 0 ≤ a := (u8step_want hm.len.2.1 hm.len.2.2 hu).1
              have HSC := Aside0.mk hsc
              have HBW := Aside0.mk hbW
              have HBW0 := Aside0.mk hbW0
              have HK2 : Aside0 (1 ≤ n + 1 ∧ (n + 1).toNat + k2 = 7 ∧ i + (n + 1) - 1 ≤ (s.size : Int)) := ⟨by omega, by omega, by omega⟩
              have hA2 : (la.length : Int) ≤ i := by have h := HA.out.2; simpa using h
              have hL2 : (lb.length : Int) ≤ i := by have h := HL.out.2; simpa using h
              by_cases haz : a = 0
              · subst haz
                rw [decide_eq_true rfl] at hf
                have HCALL := Aside0.mk (hcall _ _ _ kf hf)
                have HN2 : Aside0 (2 ≤ n + 1) := ⟨by omega⟩
                have HLA : Aside0 ((la.length : Int) ≤ i ∧ la.length + 1 ≤ maxLen ∧ (la.length + 1) * 8 ≤ 140737488355328) := ⟨by unfold maxLen; omega⟩
                have HLB : Aside0 ((lb.length : Int) ≤ i ∧ lb.length + 1 ≤ maxLen ∧ (lb.length + 1) * 4 ≤ 140737488355328) := ⟨by unfold maxLen; omega⟩
                clear hcall hst hlist hsl hcut htk2 htk hC hbW hbW0 hbc hbt hpos hf hsc hmid hu hm hbl hk hii hn4 HK HG HI HSZ2 c2 hA2 hL2 ha0
                go_wp2_with (first
                  | (go_at_call 98; refine HCALL.out.mono ?_; rintro e w2 ⟨rfl, hd⟩; have MB := Aside0.mk (below_then HBW.out HBW.out.size hd.below); have MA := Aside0.mk ((HA.out.1.below HBW0.out).below hd.below); have ML := Aside0.mk ((HL.out.1.below HBW0.out).below hd.below); have hx := below_alloc (Below.refl w2.heap.size w2) (.cells #[.int .i64 i] 3); have HX := Aside0.mk hx; clear hd HCALL HBW HBW0 HA HL hx kb)
                  | (at_builtin; refine list_append_flat (d := Kd.int .i64) rfl (.tmp 50) (.tmp 52) 32 rfl w.heap.size 3 iI _ 8 Try.underlying32 iI1 iI2 iI3 iI4 rfl (by decide) (.slice A5 la.length c5) la (by rfl) (MA.out.below HX.out) i _ rfl w2.heap.size _ 3 (by rfl) (blk_new _ _) HLA.out.2.1 HLA.out.2.2 (Nat.le_trans MB.out.size HX.out.size) ?_; intro gA cA w3 hF3 hG3 hn3 hl3; have hx2 := below_alloc (Below.refl w3.heap.size w3) (.cells #[.int .i32 rf] 21); have HX2 := Aside0.mk hx2; have NB := Aside0.mk (pw_below_grown (MB.out.alloc MB.out.size (.cells #[.int .i64 i] 3)) _ (Nat.le_trans MB.out.size HX.out.size) hG3 (MA.out.below HX.out).base); have NL := Aside0.mk ((ML.out.below HX.out).grown hG3 (flip_ ((ML.out.below HX.out).apart (MA.out.below HX.out) (by decide)))); have NA := Aside0.mk hF3; clear hF3 hG3 hn3 hl3 hx2 MB MA ML HX)
                  | (at_builtin; refine list_append_flat (d := Kd.int .i32) rfl (.tmp 54) (.tmp 56) 134 rfl w.heap.size 21 iR _ 4 Try.underlying134 iR1 iR2 iR3 iR4 rfl (by decide) (.slice A6 lb.length c6) lb (by rfl) (NL.out.below HX2.out) rf _ rfl w3.heap.size _ 21 (by rfl) (blk_new _ _) HLB.out.2.1 HLB.out.2.2 (Nat.le_trans NB.out.size HX2.out.size) ?_; intro gB cB w4 hF4 hG4 hn4 hl4)
                  | fail)
                have PB := Aside0.mk (pw_below_grown (NB.out.alloc NB.out.size (.cells #[.int .i32 rf] 21)) _ (Nat.le_trans NB.out.size HX2.out.size) hG4 (NL.out.below HX2.out).base)
                have PA := Aside0.mk ((NA.out.below HX2.out).grown hG4 (flip_ ((NA.out.below HX2.out).apart (NL.out.below HX2.out) (by decide))))
                have PL := Aside0.mk hF4
                clear hF4 hG4 hn4 hl4 NB NA NL HX2
                go_roundg k2
                case measure => omega
                case rel =>
                  refine ⟨n + 1, 0, l, u, true, _, _, rfl, rfl, HK2, ⟨HSC.out, fun _ => ⟨rfl, HN2.out⟩, fun h => (by cases h)⟩, ⟨PA.out, ?_⟩, ⟨PL.out, ?_⟩, PB⟩
                  · have := HLA.out.1
                    simp
                    omega
                  · have := HLB.out.1
                    simp
                    omega
              · rw [decide_eq_false haz] at hf
                have HCALL := Aside0.mk (hcall _ _ _ kf hf)
                have hmid2 := hmid (by omega)
                have hb4 : n + 1 ≤ 4 := by
                  have h1 := hmid2.len.1
                  rw [List.length_append, hbl] at h1
                  simp at h1
                  omega
                rw [← htk2] at hmid2
                have HM2 : Aside0 (n + 1 ≤ 4 ∧ Mid ((bytesFrom s i.toNat).take (n + 1 - 1).toNat) a l u) := ⟨hb4, hmid2⟩
                clear hcall hst hlist hsl hcut htk2 htk hC hbW hbW0 hbc hbt hpos hf hsc hmid hu hm hbl hk hii hn4 HK HG HI HSZ2 c2 hmid2 hb4 ha0 hA2 hL2
                go_wp2_with (first
                  | (go_at_call 98; refine HCALL.out.mono ?_; rintro e w2 ⟨rfl, hd⟩; have MB := Aside0.mk (below_then HBW.out HBW.out.size hd.below); have MA := Aside0.mk (And.intro ((HA.out.1.below HBW0.out).below hd.below) HA.out.2); have ML := Aside0.mk (And.intro ((HL.out.1.below HBW0.out).below hd.below) HL.out.2); clear hd HCALL HBW HBW0 HA HL kb)
                  | fail)
                go_roundg k2
                case measure => omega
                case rel => exact ⟨n + 1, a, l, u, false, la, lb, rfl, rfl, HK2, ⟨HSC.out, fun h => (by cases h), fun _ => HM2.out⟩, MA, ML, MB⟩
    · have hii : i = (s.size : Int) := by omega
      have c1b : decide (i < (s.size : Int)) = false := decide_eq_false c1
      have hend : badOf s = -1 := by
        rw [HG.out, bytesFrom_end s _ (by omega), u8scan, if_neg (by decide)]
      have HEND := Aside0.mk hend
      clear hii c1 HK gl g0 gk1 HG HA HL hend
      go_wp2
      go_ret3
      exact ⟨⟨_, _, by rw [HEND.out]; rfl⟩, HB.out⟩
def quarryref05_Bad.f (a0 : ByteArray) : Option Int := if a0.size ≤ 1073741824 then some (badOf a0) else none
set_option maxHeartbeats 4000000 in
theorem quarryref05_Bad.calls (a0 : ByteArray) (r : Int) (w : World) (h : quarryref05_Bad.f a0 = some r) :
    Calls Try.prog 93 #[.string a0] w fun e w' => e = .returned (.int .i64 r) ∧ Below w.heap.size w w' := by
  unfold quarryref05_Bad.f at h
  split at h
  case isFalse => cases h
  rename_i hs
  obtain rfl := Option.some.inj h
  have HC := Aside0.mk (ref05_Walk_calls a0 hs w)
  clear h hs
  go_enter Try.func93, Try.ntmps93
  go_wp2_with (first
    | (go_at_call 97; refine HC.out.mono ?_; rintro e w2 ⟨⟨v1, v2, rfl⟩, hb⟩; have HB := Aside0.mk hb; clear hb HC)
    | fail)
  go_ret
  exact ⟨rfl, HB.out⟩
end Go.Proofs.Ythlneooboiphdaa
