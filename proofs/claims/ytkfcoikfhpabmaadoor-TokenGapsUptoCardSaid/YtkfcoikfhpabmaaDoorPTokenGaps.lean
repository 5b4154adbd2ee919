/- The law TokenGaps walked: blanks put in ahead of each token and behind the last one move places alone. -/
import Derived.Test.YtkfcoikfhpabmaaDoorETokScan
import Derived.Test.YtkfcoikfhpabmaaDoorUL0x0
import Derived.Deep.LoopGhost
import Derived.Deep.QuietTactic
import Derived.BigQuiet
import Derived.OwnWalk
import Derived.Lib.Hide
import Derived.Outline
import Derived.Test.YtkfcoikfhpabmaaDoorPTok
namespace Go.Proofs.YtkfcoikfhpabmaaDoor.U
open Go.RowKit Go.Proofs.YtkfcoikfhpabmaaDoorW.PrintWords
set_option linter.unusedSimpArgs false
set_option linter.unusedVariables false

def blanksL (n : Nat) : List UInt8 := ([32, 9, 10, 13, 32, 9, 10, 13, 32, 9, 10, 13] : List UInt8).take n
theorem blanks_b0 : hallmarklaw04_blanks.f 20 ((0 : Nat) : Int) = some ⟨(blanksL 0).toArray⟩ := by kernel_rfl
theorem blanks_b1 : hallmarklaw04_blanks.f 20 ((1 : Nat) : Int) = some ⟨(blanksL 1).toArray⟩ := by kernel_rfl
theorem blanks_b2 : hallmarklaw04_blanks.f 20 ((2 : Nat) : Int) = some ⟨(blanksL 2).toArray⟩ := by kernel_rfl
theorem blanks_b3 : hallmarklaw04_blanks.f 20 ((3 : Nat) : Int) = some ⟨(blanksL 3).toArray⟩ := by kernel_rfl
theorem blanks_b4 : hallmarklaw04_blanks.f 20 ((4 : Nat) : Int) = some ⟨(blanksL 4).toArray⟩ := by kernel_rfl
theorem blanks_b5 : hallmarklaw04_blanks.f 20 ((5 : Nat) : Int) = some ⟨(blanksL 5).toArray⟩ := by kernel_rfl
theorem blanks_b6 : hallmarklaw04_blanks.f 20 ((6 : Nat) : Int) = some ⟨(blanksL 6).toArray⟩ := by kernel_rfl
theorem blanks_b7 : hallmarklaw04_blanks.f 20 ((7 : Nat) : Int) = some ⟨(blanksL 7).toArray⟩ := by kernel_rfl
theorem blanks_b8 : hallmarklaw04_blanks.f 20 ((8 : Nat) : Int) = some ⟨(blanksL 8).toArray⟩ := by kernel_rfl
theorem blanks_b9 : hallmarklaw04_blanks.f 20 ((9 : Nat) : Int) = some ⟨(blanksL 9).toArray⟩ := by kernel_rfl
theorem blanks_b10 : hallmarklaw04_blanks.f 20 ((10 : Nat) : Int) = some ⟨(blanksL 10).toArray⟩ := by kernel_rfl
theorem blanks_b11 : hallmarklaw04_blanks.f 20 ((11 : Nat) : Int) = some ⟨(blanksL 11).toArray⟩ := by kernel_rfl
theorem blanks_20 (n : Nat) (hn : n < 12) : hallmarklaw04_blanks.f 20 (n : Int) = some ⟨(blanksL n).toArray⟩ := by
  have h : n = 0 ∨ n = 1 ∨ n = 2 ∨ n = 3 ∨ n = 4 ∨ n = 5 ∨ n = 6 ∨ n = 7 ∨ n = 8 ∨ n = 9 ∨ n = 10 ∨ n = 11 := by omega
  rcases h with rfl | rfl | rfl | rfl | rfl | rfl | rfl | rfl | rfl | rfl | rfl | rfl
  · exact blanks_b0
  · exact blanks_b1
  · exact blanks_b2
  · exact blanks_b3
  · exact blanks_b4
  · exact blanks_b5
  · exact blanks_b6
  · exact blanks_b7
  · exact blanks_b8
  · exact blanks_b9
  · exact blanks_b10
  · exact blanks_b11
theorem blanks_ok (n : Nat) (hn : n < 12) : ∀ m, hallmarklaw04_blanks.f (m + 20) (n : Int) = some ⟨(blanksL n).toArray⟩
  | 0 => blanks_20 n hn
  | m + 1 => hallmarklaw04_blanks.mono _ _ _ (blanks_ok n hn m)
theorem blanks_at (n k : Nat) (hn : n < 12) (hk : 20 ≤ k) : hallmarklaw04_blanks.f k (n : Int) = some ⟨(blanksL n).toArray⟩ := by
  obtain ⟨m, rfl⟩ : ∃ m, k = m + 20 := ⟨k - 20, by omega⟩
  exact blanks_ok n hn m
theorem blanksL_len (n : Nat) (hn : n < 12) : (blanksL n).length = n := by
  unfold blanksL
  rw [List.length_take]
  simp only [List.length_cons, List.length_nil]
  omega
theorem blanksL_blank (n : Nat) : ∀ c ∈ blanksL n, blankT (c.toNat : Int) = true := by
  intro c hc
  have h := List.mem_of_mem_take hc
  simp only [List.mem_cons, List.not_mem_nil, or_false] at h
  rcases h with rfl | rfl | rfl | rfl | rfl | rfl | rfl | rfl | rfl | rfl | rfl | rfl <;> decide

/-- the blanks ahead of token d -/
def gapAt (more d : Nat) : List UInt8 := blanksL (more + d % 2 + 1)
theorem ba_append (W : ByteArray) (l : List UInt8) : (W ++ (⟨l.toArray⟩ : ByteArray)).data.toList = W.data.toList ++ l := by
  rw [ByteArray.data_append, Array.toList_append]
theorem ba_size (l : List UInt8) : (⟨l.toArray⟩ : ByteArray).size = l.length := by
  rw [Lib.size_eq]

theorem own_under {w w' : World} {base : Nat} {e : TypeId} {size : Nat} {v : Value} {n : Nat} {xs : List Value} (h : w.ownsRow base e size v n xs) (hb : Below w.heap.size w w') : w'.ownsRow base e size v n xs :=
  own_move h fun k hk => hb.block k (own_lt h k hk)
theorem own_dr {w : World} {base : Nat} {e : TypeId} {size : Nat} {v : Value} {n : Nat} {xs : List Value} (h : w.ownsRow base e size v n xs) (m : Nat) : (w.drewN m).ownsRow base e size v n xs := own_move h fun _ _ => rfl
theorem moved_len (gaps : Nat → List UInt8) : ∀ (l : List Tok) (d j : Nat), (movedT gaps d j l).length = l.length
  | [], d, j => rfl
  | t :: l, d, j => by rw [movedT, List.length_cons, moved_len gaps l, List.length_cons]

/-- what the law's first scan answers, and what its second one will -/
theorem gaps_told (s : ByteArray) (hs : s.size ≤ 1048576) (more : Nat) (hm : more ≤ 9) (L : List Tok) (e p : Int) (hL : tscanR s = (L, e, p)) :
    (e ≠ 0 ∧ L = []) ∨ (e = 0 ∧ L.length ≤ 1048576 ∧ (∀ t ∈ L, 0 ≤ t.f1 ∧ t.f1 < t.f2 ∧ t.f2 ≤ s.size) ∧ (wideT (gapAt more) (blanksL more) s 0 L).length ≤ 20000000 ∧
      ∀ S : ByteArray, S.data.toList = wideT (gapAt more) (blanksL more) s 0 L → tscanR S = (movedT (gapAt more) 0 0 L, 0, 0)) := by
  by_cases he : e = 0
  · have e1 : (tscanR s).2.1 = 0 := by rw [hL]; exact he
    obtain ⟨x1, x2⟩ := tscan_ok s e1
    obtain ⟨L', n1, n2, n3, n4, _, n6⟩ := ahead_wide (gapAt more) (blanksL more) 11 (fun d => blanksL_blank _) (fun d => by rw [show (gapAt more d).length = more + d % 2 + 1 from blanksL_len _ (by omega)]; omega) (blanksL_blank more) s (s.size + 1) 0 0 [] (Nat.zero_le _) (by omega) x1
    have hfl := blanksL_len more (by omega)
    rw [hL, n1, List.nil_append] at x2
    simp only at x2
    subst x2
    refine Or.inr ⟨he, by omega, n4, by omega, fun S hS => ?_⟩
    have hA := n6 S 0 (S.size + 1) [] (by rw [List.drop_zero]; exact hS) (Nat.zero_le _) (by omega)
    unfold tscanR
    rw [hA]
    rfl
  · refine Or.inl ⟨he, ?_⟩
    have := tscan_bad s (by rw [hL]; exact he)
    rw [hL] at this
    exact this

/-- one token more: the bytes, and what is wanted -/
theorem gaps_step (s : ByteArray) (more : Nat) (hm : more ≤ 9) (L : List Tok) (d : Nat) (hd : d < L.length) (W : ByteArray) (want T M : List Tok) (tot : List UInt8) (t : Tok) (ht : L[d] = t) (hb : 0 ≤ t.f1 ∧ t.f1 < t.f2 ∧ t.f2 ≤ s.size)
    (h1 : W.data.toList ++ wideT (gapAt more) (blanksL more) s d (L.drop d) = tot) (h2 : want ++ movedT (gapAt more) d W.size (L.drop d) = M) :
    ((W ++ (⟨(blanksL (more + d % 2 + 1)).toArray⟩ : ByteArray)) ++ s.extract t.f1.toNat t.f2.toNat).data.toList ++ wideT (gapAt more) (blanksL more) s (d + 1) (L.drop (d + 1)) = tot ∧
    (want ++ [⟨t.f0, ((W ++ (⟨(blanksL (more + d % 2 + 1)).toArray⟩ : ByteArray)).size : Int), (((W ++ (⟨(blanksL (more + d % 2 + 1)).toArray⟩ : ByteArray)) ++ s.extract t.f1.toNat t.f2.toNat).size : Int), t.f3⟩]) ++ movedT (gapAt more) (d + 1) ((W ++ (⟨(blanksL (more + d % 2 + 1)).toArray⟩ : ByteArray)) ++ s.extract t.f1.toNat t.f2.toNat).size (L.drop (d + 1)) = M := by
  have hgl := blanksL_len (more + d % 2 + 1) (by omega)
  have hx : (s.extract t.f1.toNat t.f2.toNat).size = (t.f2 - t.f1).toNat := by
    rw [ByteArray.size_extract]
    omega
  have hz1 : (W ++ (⟨(blanksL (more + d % 2 + 1)).toArray⟩ : ByteArray)).size = W.size + (more + d % 2 + 1) := by rw [ByteArray.size_append, ba_size (blanksL (more + d % 2 + 1)), hgl]
  have hz2 : ((W ++ (⟨(blanksL (more + d % 2 + 1)).toArray⟩ : ByteArray)) ++ s.extract t.f1.toNat t.f2.toNat).size = W.size + (more + d % 2 + 1) + (t.f2 - t.f1).toNat := by rw [ByteArray.size_append, hz1, hx]
  rw [List.drop_eq_getElem_cons hd, ht] at h1 h2
  rw [wideT] at h1
  rw [movedT, show (gapAt more d).length = more + d % 2 + 1 from hgl] at h2
  refine ⟨?_, ?_⟩
  · rw [← h1, ByteArray.data_append, Array.toList_append, ba_append]
    simp only [List.append_assoc]
    rfl
  · rw [hz1, hz2, ← h2, List.append_assoc, List.singleton_append]

set_option maxHeartbeats 16000000 in
set_option maxRecDepth 100000 in
theorem gaps_in (a0 : ByteArray) (m : Nat) (h : a0.size ≤ 1048576) (hm : m ≤ 9) (w : World) (hT : Tabs w) :
    Calls Tryd.prog 6 #[.string a0, .int .i64 (m : Int)] w fun e w' => e = .returned (.bool true) ∧ Below w.heap.size w w' := by
  have hmi0 : (0 : Int) ≤ (m : Int) := by omega
  have hmi9 : (m : Int) ≤ 9 := by omega
  obtain ⟨i0, hi0, hz0, hz1, hz2⟩ := info_parts info31
  have HI := Lib.hid hi0
  have HZ0 := Lib.hid hz0
  have HZ1 := Lib.hid hz1
  have HZ2 := Lib.hid hz2
  clear hi0 hz0 hz1 hz2
  obtain ⟨⟨L, e, p⟩, hL⟩ : ∃ R, tscanR a0 = R := ⟨_, rfl⟩
  have htold := gaps_told a0 h m (by omega) L e p hL
  have HK : Hid (∀ W, Tabs W → _) := fun W (hW : Tabs W) => hallmarklaw04_TokenKnown.calls 30 true W hW (tknown_at 30 (Nat.le_refl _))
  have HS : Hid (∀ W, Tabs W → _) := fun W (hW : Tabs W) => token_Scan.calls a0 L e p W hW (by rw [tscan_f a0 (by omega), hL])
  have HT := Lib.hid hT
  clear hT hL
  rcases htold with ⟨he, hLn⟩ | ⟨he, hn, hB, htot, hfin⟩
  · subst hLn
    have he' : (e != 0) = true := bne_iff_ne.2 he
    clear he
    go_enter Tryd.func6, Tryd.ntmps6
    go_wp2_with (first
      | (go_at_call 3; (with_reducible refine (HK.out _ HT.out).mono ?_); rintro e1 w1 ⟨rfl, hb1⟩; have HB1 := Lib.hid hb1; clear hb1)
      | (go_at_call 8; (with_reducible refine (HS.out _ (HT.out.below HB1.out)).mono ?_); rintro e2 w2 ⟨v, rfl, hR, hb2⟩; have HR := Lib.hid hR; clear hR; obtain ⟨A, c, rfl⟩ := Kd.R_slice HR.out; have HB2 := Lib.hid (HB1.out.trans (hb2.mono HB1.out.size)); clear hb2))
    go_ret
    exact ⟨rfl, HB2.out⟩
  · subst he
    have HBD := Lib.hid hB
    have HFIN := Lib.hid hfin
    obtain ⟨tot, htt⟩ : ∃ x, wideT (gapAt m) (blanksL m) a0 0 L = x := ⟨_, rfl⟩
    obtain ⟨M, hM⟩ : ∃ x, movedT (gapAt m) 0 0 L = x := ⟨_, rfl⟩
    rw [htt] at htot
    have HTT := Lib.hid htt
    have HM := Lib.hid hM
    clear hB hfin htt hM
    go_enter Tryd.func6, Tryd.ntmps6
    go_wp2_with (first
      | (go_at_call 3; (with_reducible refine (HK.out _ HT.out).mono ?_); rintro e1 w1 ⟨rfl, hb1⟩; have HB1 := Lib.hid hb1; clear hb1)
      | (go_at_call 8; (with_reducible refine (HS.out _ (HT.out.below HB1.out)).mono ?_); rintro e2 w2 ⟨v, rfl, hR, hb2⟩; have HR := Lib.hid hR; clear hR; obtain ⟨A, c, rfl⟩ := Kd.R_slice HR.out; have HB2 := Lib.hid (HB1.out.trans (hb2.mono HB1.out.size)); clear hb2))
    go_loopg [8, 9, 10] L.length (fun g v8 v9 v10 wx => ∃ (d : Nat) (vo : Value) (W : ByteArray) (want : List Tok), vo = v9 ∧ v8 = .string W ∧ v10 = .int .i64 d ∧ d + g = L.length ∧ want.length = d ∧ Hid (W.data.toList ++ wideT (gapAt m) (blanksL m) a0 d (L.drop d) = tot) ∧ Hid (want ++ movedT (gapAt m) d W.size (L.drop d) = M) ∧ Hid (wx.ownsRow w2.heap.size 31 4 vo d (toksCells want)) ∧ Hid (Below w2.heap.size w2 wx))
    case atStart => exact ⟨0, _, ⟨#[]⟩, [], rfl, rfl, rfl, by omega, rfl, by rw [List.drop_zero]; exact HTT.out, by rw [List.drop_zero]; exact HM.out, own_nil _ _ _ _, Below.refl _ _⟩
    case round =>
      obtain ⟨d, vo, W, want, hvo, rfl, rfl, hdg, hwl, HTOT, HMV, hown, hbw⟩ := hrel
      subst hvo
      have hWs : W.size ≤ 20000000 := by
        have := congrArg List.length HTOT.out
        rw [List.length_append, ← Lib.size_eq] at this
        omega
      cases gk with
      | succ g =>
        have hlt : d < L.length := by omega
        have hdl : ((d : Int) < (L.length : Int)) := by omega
        have hd0 : (0 : Int) ≤ (d : Int) := by omega
        obtain ⟨ad, hAd, hx0, hx1, hx2, hx3⟩ := at_T31 (Kd.R_reads' HR.out).2.2 d hd0 hdl
        subst hAd
        rw [rd_tok L d hlt] at hx0 hx1 hx2 hx3
        have hmt := HBD.out _ (List.getElem_mem hlt)
        obtain ⟨t, ht⟩ : ∃ t, L[d] = t := ⟨_, rfl⟩
        rw [ht] at hx0 hx1 hx2 hx3 hmt
        have hst := gaps_step a0 m hm L d hlt W want L M tot t ht hmt HTOT.out HMV.out
        obtain ⟨GB, hGB⟩ : ∃ x : ByteArray, (⟨(blanksL (m + d % 2 + 1)).toArray⟩ : ByteArray) = x := ⟨_, rfl⟩
        have hgs : GB.size ≤ 12 := by rw [← hGB, ba_size, blanksL_len _ (by omega)]; omega
        have hbl : hallmarklaw04_blanks.f 30 ((m : Int) + (d : Int) % 2 + 1) = some GB := by
          rw [show ((m : Int) + (d : Int) % 2 + 1) = ((m + d % 2 + 1 : Nat) : Int) by omega, ← hGB]
          exact blanks_at _ 30 (by omega) (by omega)
        rw [hGB] at hst
        clear ht hGB
        obtain ⟨k, x1, x2, tx⟩ := t
        simp only at hx0 hx1 hx2 hx3 hmt hst
        obtain ⟨b1, b2, b3⟩ := hmt
        obtain ⟨EX, hEX⟩ : ∃ x : ByteArray, a0.extract x1.toNat x2.toNat = x := ⟨_, rfl⟩
        have hes : EX.size ≤ 1048576 := by rw [← hEX, ByteArray.size_extract]; omega
        rw [hEX] at hst
        have y0 := tabs_cell hbw.out hx0
        have y1 := tabs_cell hbw.out hx1
        have y2 := tabs_cell hbw.out hx2
        have y3 := tabs_cell hbw.out hx3
        rw [Int.toNat_natCast] at y0 y1 y2 y3
        have HST := Lib.hid hst
        have HEX := Lib.hid hEX
        have HBL := Lib.hid hbl
        have HWL := Lib.hid hwl
        have hwl2 : want.length ≤ d := by omega
        clear hx0 hx1 hx2 hx3 hst hEX hbl hwl
        have d1 : decide (x1 < 0) = false := decide_eq_false (by omega)
        have d2 : decide (x2 < x1) = false := decide_eq_false (by omega)
        have d3 : decide ((a0.size : Int) < x2) = false := decide_eq_false (by omega)
        have q1 : W.size + GB.size ≤ 9223372036854775807 := by omega
        have q2 : W.size + GB.size + EX.size ≤ 9223372036854775807 := by omega
        have b4 : x1 ≤ x2 := by omega
        go_wp2_with fail
        go_quiet (fail)
        go_wp2_with (go_at_call 15; go_must ((with_reducible refine (hallmarklaw04_blanks.calls 30 _ GB _ HBL.out).mono ?_); rintro e5 w5 ⟨rfl, hb5⟩; have u0 := tabs_cell hb5 y0; have u1 := tabs_cell hb5 y1; have u2 := tabs_cell hb5 y2; have u3 := tabs_cell hb5 y3; have hown5 := Lib.hid (own_under (own_dr hown.out nq) hb5); have hbw5 := Lib.hid ((pw_below_drewN hbw.out nq).trans (hb5.mono hbw.out.size)); clear hb5 y0 y1 y2 y3))
        have z1 := fun o => tabs_cell ((Below.refl w5.heap.size w5).alloc (Nat.le_refl _) o) u1
        have z2 := fun o => tabs_cell ((Below.refl w5.heap.size w5).alloc (Nat.le_refl _) o) u2
        clear u0 u1 u2 u3
        go_quiet (fail)
        rw [HEX.out]
        have hs5 := hbw5.out.size
        have hnb : some w5.heap.size ≠ vo.ownBlock := fun e => by have := own_lt hown5.out _ e.symm; omega
        have HNB := Lib.hid hnb
        clear hnb z1 z2
        go_wp2_with (at_builtin; go_must (refine wpList_append_own _ rfl (.tmp 100) (.tmp 102) 22 rfl w2.heap.size 31 i0 _ 4 40 Tryd.underlying22 HI.out HZ0.out HZ1.out HZ2.out rfl (by decide) vo d (toksCells want) rfl ?c0 _ 1 1 [.int .i64 k, .int .i64 ((W.size : Int) + (GB.size : Int)), .int .i64 ((W.size : Int) + (GB.size : Int) + (EX.size : Int)), .string tx] rfl rfl ?c1 ?c2 ?c3 ?c4 ?c5 ?_; (case c0 => exact World.ownsRow.alloc (own_setCell (own_dr (hown5.out.alloc _) nq) (p := ⟨w5.heap.size, 2, none⟩) HNB.out _) _); (case c1 => exact World.news_of_block (cs := #[.int .i64 k, .int .i64 ((W.size : Int) + (GB.size : Int)), .int .i64 ((W.size : Int) + (GB.size : Int) + (EX.size : Int)), .string tx]) (t := 31) (fr := (0, 0)) (by simpa using heap_alloc_new (((w5.alloc (.cells #[.int .i64 k, .int .i64 ((W.size : Int) + (GB.size : Int)), .int .i64 x2, .string tx] 31)).drewN nq).setCell ⟨w5.heap.size, 2, none⟩ (.int .i64 ((W.size : Int) + (GB.size : Int) + (EX.size : Int)))) (.cells #[.int .i64 k, .int .i64 ((W.size : Int) + (GB.size : Int)), .int .i64 ((W.size : Int) + (GB.size : Int) + (EX.size : Int)), .string tx] 31))); (case c2 => simp [Value.oneCell']); (case c3 => unfold maxLen; omega); (case c4 => omega); (case c5 => simp; omega); intro v8 w8 hown8 hg8 _; have HO8 := Lib.hid hown8; have HG8 := Lib.hid hg8; clear hown8 hg8))
        go_roundg g
        case measure => omega
        case rel =>
          refine ⟨d + 1, v8, (W ++ GB) ++ EX, _, rfl, rfl, by go_num, by omega, ?_, HST.out.1, HST.out.2, ?_, ?_⟩
          · rw [List.length_append, List.length_singleton, HWL.out]
          · show World.ownsRow _ _ _ _ _ _ _
            have e1 : (((W ++ GB).size : Nat) : Int) = (W.size : Int) + (GB.size : Int) := by rw [ByteArray.size_append]; omega
            have e2 : ((((W ++ GB) ++ EX).size : Nat) : Int) = (W.size : Int) + (GB.size : Int) + (EX.size : Int) := by rw [ByteArray.size_append, ByteArray.size_append]; omega
            rw [toksCells_snoc, e1, e2]
            exact HO8.out
          · exact (((pw_below_drewN (hbw5.out.alloc hs5 _) nq).setCell (p := ⟨w5.heap.size, 2, none⟩) hs5 _).alloc (by simp; omega) _).grown HG8.out (by simp; omega) (fun k' hk' => own_base hown5.out k' hk')
      | zero =>
        have hd : d = L.length := by omega
        subst hd
        have hdl : ¬ ((L.length : Int) < (L.length : Int)) := by omega
        have ht1 := HTOT.out
        have hv1 := HMV.out
        rw [List.drop_eq_nil_of_le (by omega)] at ht1 hv1
        rw [movedT, List.append_nil] at hv1
        obtain ⟨GB, hGB⟩ : ∃ x : ByteArray, (⟨(blanksL m).toArray⟩ : ByteArray) = x := ⟨_, rfl⟩
        have hgs : GB.size ≤ 12 := by rw [← hGB, ba_size, blanksL_len _ (by omega)]; omega
        have hbl : hallmarklaw04_blanks.f 30 (m : Int) = some GB := by
          rw [← hGB]
          exact blanks_at _ 30 (by omega) (by omega)
        have hsc : tscanR (W ++ GB) = (want, 0, 0) := by
          rw [hv1, ← HM.out]
          refine HFIN.out _ ?_
          rw [HTT.out, ← hGB, ba_append]
          exact ht1
        have q1 : W.size + GB.size ≤ 9223372036854775807 := by omega
        have HS2 : Hid (∀ W', Tabs W' → _) := fun W' (hW : Tabs W') => token_Scan.calls (W ++ GB) want 0 0 W' hW (by rw [tscan_f (W ++ GB) (by rw [ByteArray.size_append]; omega), hsc])
        have hwl2 : want.length ≤ 1048576 := by omega
        have HBL := Lib.hid hbl
        obtain ⟨A1, c1, rfl⟩ := own_slice hown.out
        have HRW : Hid (Kd.R k31 31 wr w2.heap.size (fun _ => True) (.slice A1 L.length c1) want) := by
          show Kd.R _ _ _ _ _ _ _
          exact toks_R (by rw [hwl]; exact hown.out)
        have HB3 := Lib.hid (HB2.out.trans (hbw.out.mono HB2.out.size))
        have HWL := Lib.hid hwl
        clear hsc hbl hGB hv1 ht1 hwl
        go_wp2_with (first
          | (go_at_call 15; go_must ((with_reducible refine (hallmarklaw04_blanks.calls 30 _ GB _ HBL.out).mono ?_); rintro e5 w5 ⟨rfl, hb5⟩; have HRW5 := Lib.hid (Kd.R_below HRW.out hb5); have HB5 := Lib.hid (HB3.out.trans (hb5.mono HB3.out.size)); clear hb5))
          | (go_at_call 8; (with_reducible refine (HS2.out _ (HT.out.below HB5.out)).mono ?_); go_must (rintro e6 w6 ⟨v6, rfl, hR6, hb6⟩; have HR6 := Lib.hid hR6; clear hR6; obtain ⟨A6, c6, rfl⟩ := Kd.R_slice HR6.out; have HRW6 := Lib.hid (Kd.R_below HRW5.out hb6); have HB6 := Lib.hid (HB5.out.trans (hb6.mono HB5.out.size)); clear hb6 HRW5)))
        obtain ⟨r1, r2, r3⟩ := Kd.R_reads' HR6.out
        obtain ⟨r4, r5, r6⟩ := Kd.R_reads' HRW6.out
        have hst := hallmarkkit_SameTokens.calls (want.length + 1) A6 c6 want A1 c1 want true w6 r3 r2 r6 (by omega) (same_tokens want (by omega) (want.length + 1) (by omega))
        have he1 : Value.slice A1 want.length c1 = Value.slice A1 L.length c1 := by rw [HWL.out]
        rw [he1] at hst
        clear he1
        (with_reducible refine hst.mono ?_)
        rintro e7 w7 ⟨rfl, hb7⟩
        have HB7 := Lib.hid (HB6.out.trans (hb7.mono HB6.out.size))
        clear hb7 r1 r2 r3 r4 r5 r6 hst
        go_wp2
        go_ret
        exact ⟨rfl, HB7.out⟩
set_option maxHeartbeats 16000000 in
set_option maxRecDepth 100000 in
theorem gaps_lo (a0 : ByteArray) (a1 : Int) (h : a0.size ≤ 1048576) (ha : a1 < 0) (w : World) (hT : Tabs w) :
    Calls Tryd.prog 6 #[.string a0, .int .i64 a1] w fun e w' => e = .returned (.bool true) ∧ Below w.heap.size w w' := by
  obtain ⟨i0, hi0, hz0, hz1, hz2⟩ := info_parts info31
  have HI := Lib.hid hi0
  have HZ0 := Lib.hid hz0
  have HZ1 := Lib.hid hz1
  have HZ2 := Lib.hid hz2
  clear hi0 hz0 hz1 hz2
  obtain ⟨⟨L, e, p⟩, hL⟩ : ∃ R, tscanR a0 = R := ⟨_, rfl⟩
  have htold := gaps_told a0 h 3 (by omega) L e p hL
  have HK : Hid (∀ W, Tabs W → _) := fun W (hW : Tabs W) => hallmarklaw04_TokenKnown.calls 30 true W hW (tknown_at 30 (Nat.le_refl _))
  have HS : Hid (∀ W, Tabs W → _) := fun W (hW : Tabs W) => token_Scan.calls a0 L e p W hW (by rw [tscan_f a0 (by omega), hL])
  have HT := Lib.hid hT
  clear hT hL
  rcases htold with ⟨he, hLn⟩ | ⟨he, hn, hB, htot, hfin⟩
  · subst hLn
    have he' : (e != 0) = true := bne_iff_ne.2 he
    clear he
    go_enter Tryd.func6, Tryd.ntmps6
    go_wp2_with (first
      | (go_at_call 3; (with_reducible refine (HK.out _ HT.out).mono ?_); rintro e1 w1 ⟨rfl, hb1⟩; have HB1 := Lib.hid hb1; clear hb1)
      | (go_at_call 8; (with_reducible refine (HS.out _ (HT.out.below HB1.out)).mono ?_); rintro e2 w2 ⟨v, rfl, hR, hb2⟩; have HR := Lib.hid hR; clear hR; obtain ⟨A, c, rfl⟩ := Kd.R_slice HR.out; have HB2 := Lib.hid (HB1.out.trans (hb2.mono HB1.out.size)); clear hb2))
    go_ret
    exact ⟨rfl, HB2.out⟩
  · subst he
    have HBD := Lib.hid hB
    have HFIN := Lib.hid hfin
    obtain ⟨tot, htt⟩ : ∃ x, wideT (gapAt 3) (blanksL 3) a0 0 L = x := ⟨_, rfl⟩
    obtain ⟨M, hM⟩ : ∃ x, movedT (gapAt 3) 0 0 L = x := ⟨_, rfl⟩
    rw [htt] at htot
    have HTT := Lib.hid htt
    have HM := Lib.hid hM
    clear hB hfin htt hM
    go_enter Tryd.func6, Tryd.ntmps6
    go_wp2_with (first
      | (go_at_call 3; (with_reducible refine (HK.out _ HT.out).mono ?_); rintro e1 w1 ⟨rfl, hb1⟩; have HB1 := Lib.hid hb1; clear hb1)
      | (go_at_call 8; (with_reducible refine (HS.out _ (HT.out.below HB1.out)).mono ?_); rintro e2 w2 ⟨v, rfl, hR, hb2⟩; have HR := Lib.hid hR; clear hR; obtain ⟨A, c, rfl⟩ := Kd.R_slice HR.out; have HB2 := Lib.hid (HB1.out.trans (hb2.mono HB1.out.size)); clear hb2))
    go_loopg [8, 9, 10] L.length (fun g v8 v9 v10 wx => ∃ (d : Nat) (vo : Value) (W : ByteArray) (want : List Tok), vo = v9 ∧ v8 = .string W ∧ v10 = .int .i64 d ∧ d + g = L.length ∧ want.length = d ∧ Hid (W.data.toList ++ wideT (gapAt 3) (blanksL 3) a0 d (L.drop d) = tot) ∧ Hid (want ++ movedT (gapAt 3) d W.size (L.drop d) = M) ∧ Hid (wx.ownsRow w2.heap.size 31 4 vo d (toksCells want)) ∧ Hid (Below w2.heap.size w2 wx))
    case atStart => exact ⟨0, _, ⟨#[]⟩, [], rfl, rfl, rfl, by omega, rfl, by rw [List.drop_zero]; exact HTT.out, by rw [List.drop_zero]; exact HM.out, own_nil _ _ _ _, Below.refl _ _⟩
    case round =>
      obtain ⟨d, vo, W, want, hvo, rfl, rfl, hdg, hwl, HTOT, HMV, hown, hbw⟩ := hrel
      subst hvo
      have hWs : W.size ≤ 20000000 := by
        have := congrArg List.length HTOT.out
        rw [List.length_append, ← Lib.size_eq] at this
        omega
      cases gk with
      | succ g =>
        have hlt : d < L.length := by omega
        have hdl : ((d : Int) < (L.length : Int)) := by omega
        have hd0 : (0 : Int) ≤ (d : Int) := by omega
        obtain ⟨ad, hAd, hx0, hx1, hx2, hx3⟩ := at_T31 (Kd.R_reads' HR.out).2.2 d hd0 hdl
        subst hAd
        rw [rd_tok L d hlt] at hx0 hx1 hx2 hx3
        have hmt := HBD.out _ (List.getElem_mem hlt)
        obtain ⟨t, ht⟩ : ∃ t, L[d] = t := ⟨_, rfl⟩
        rw [ht] at hx0 hx1 hx2 hx3 hmt
        have hst := gaps_step a0 3 (by omega) L d hlt W want L M tot t ht hmt HTOT.out HMV.out
        obtain ⟨GB, hGB⟩ : ∃ x : ByteArray, (⟨(blanksL (3 + d % 2 + 1)).toArray⟩ : ByteArray) = x := ⟨_, rfl⟩
        have hgs : GB.size ≤ 12 := by rw [← hGB, ba_size, blanksL_len _ (by omega)]; omega
        have hbl : hallmarklaw04_blanks.f 30 ((3 : Int) + (d : Int) % 2 + 1) = some GB := by
          rw [show ((3 : Int) + (d : Int) % 2 + 1) = ((3 + d % 2 + 1 : Nat) : Int) by omega, ← hGB]
          exact blanks_at _ 30 (by omega) (by omega)
        rw [hGB] at hst
        clear ht hGB
        obtain ⟨k, x1, x2, tx⟩ := t
        simp only at hx0 hx1 hx2 hx3 hmt hst
        obtain ⟨b1, b2, b3⟩ := hmt
        obtain ⟨EX, hEX⟩ : ∃ x : ByteArray, a0.extract x1.toNat x2.toNat = x := ⟨_, rfl⟩
        have hes : EX.size ≤ 1048576 := by rw [← hEX, ByteArray.size_extract]; omega
        rw [hEX] at hst
        have y0 := tabs_cell hbw.out hx0
        have y1 := tabs_cell hbw.out hx1
        have y2 := tabs_cell hbw.out hx2
        have y3 := tabs_cell hbw.out hx3
        rw [Int.toNat_natCast] at y0 y1 y2 y3
        have HST := Lib.hid hst
        have HEX := Lib.hid hEX
        have HBL := Lib.hid hbl
        have HWL := Lib.hid hwl
        have hwl2 : want.length ≤ d := by omega
        clear hx0 hx1 hx2 hx3 hst hEX hbl hwl
        have d1 : decide (x1 < 0) = false := decide_eq_false (by omega)
        have d2 : decide (x2 < x1) = false := decide_eq_false (by omega)
        have d3 : decide ((a0.size : Int) < x2) = false := decide_eq_false (by omega)
        have q1 : W.size + GB.size ≤ 9223372036854775807 := by omega
        have q2 : W.size + GB.size + EX.size ≤ 9223372036854775807 := by omega
        have b4 : x1 ≤ x2 := by omega
        go_wp2_with fail
        go_quiet (fail)
        go_wp2_with (go_at_call 15; go_must ((with_reducible refine (hallmarklaw04_blanks.calls 30 _ GB _ HBL.out).mono ?_); rintro e5 w5 ⟨rfl, hb5⟩; have u0 := tabs_cell hb5 y0; have u1 := tabs_cell hb5 y1; have u2 := tabs_cell hb5 y2; have u3 := tabs_cell hb5 y3; have hown5 := Lib.hid (own_under (own_dr hown.out nq) hb5); have hbw5 := Lib.hid ((pw_below_drewN hbw.out nq).trans (hb5.mono hbw.out.size)); clear hb5 y0 y1 y2 y3))
        have z1 := fun o => tabs_cell ((Below.refl w5.heap.size w5).alloc (Nat.le_refl _) o) u1
        have z2 := fun o => tabs_cell ((Below.refl w5.heap.size w5).alloc (Nat.le_refl _) o) u2
        clear u0 u1 u2 u3
        go_quiet (fail)
        rw [HEX.out]
        have hs5 := hbw5.out.size
        have hnb : some w5.heap.size ≠ vo.ownBlock := fun e => by have := own_lt hown5.out _ e.symm; omega
        have HNB := Lib.hid hnb
        clear hnb z1 z2
        go_wp2_with (at_builtin; go_must (refine wpList_append_own _ rfl (.tmp 100) (.tmp 102) 22 rfl w2.heap.size 31 i0 _ 4 40 Tryd.underlying22 HI.out HZ0.out HZ1.out HZ2.out rfl (by decide) vo d (toksCells want) rfl ?c0 _ 1 1 [.int .i64 k, .int .i64 ((W.size : Int) + (GB.size : Int)), .int .i64 ((W.size : Int) + (GB.size : Int) + (EX.size : Int)), .string tx] rfl rfl ?c1 ?c2 ?c3 ?c4 ?c5 ?_; (case c0 => exact World.ownsRow.alloc (own_setCell (own_dr (hown5.out.alloc _) nq) (p := ⟨w5.heap.size, 2, none⟩) HNB.out _) _); (case c1 => exact World.news_of_block (cs := #[.int .i64 k, .int .i64 ((W.size : Int) + (GB.size : Int)), .int .i64 ((W.size : Int) + (GB.size : Int) + (EX.size : Int)), .string tx]) (t := 31) (fr := (0, 0)) (by simpa using heap_alloc_new (((w5.alloc (.cells #[.int .i64 k, .int .i64 ((W.size : Int) + (GB.size : Int)), .int .i64 x2, .string tx] 31)).drewN nq).setCell ⟨w5.heap.size, 2, none⟩ (.int .i64 ((W.size : Int) + (GB.size : Int) + (EX.size : Int)))) (.cells #[.int .i64 k, .int .i64 ((W.size : Int) + (GB.size : Int)), .int .i64 ((W.size : Int) + (GB.size : Int) + (EX.size : Int)), .string tx] 31))); (case c2 => simp [Value.oneCell']); (case c3 => unfold maxLen; omega); (case c4 => omega); (case c5 => simp; omega); intro v8 w8 hown8 hg8 _; have HO8 := Lib.hid hown8; have HG8 := Lib.hid hg8; clear hown8 hg8))
        go_roundg g
        case measure => omega
        case rel =>
          refine ⟨d + 1, v8, (W ++ GB) ++ EX, _, rfl, rfl, by go_num, by omega, ?_, HST.out.1, HST.out.2, ?_, ?_⟩
          · rw [List.length_append, List.length_singleton, HWL.out]
          · show World.ownsRow _ _ _ _ _ _ _
            have e1 : (((W ++ GB).size : Nat) : Int) = (W.size : Int) + (GB.size : Int) := by rw [ByteArray.size_append]; omega
            have e2 : ((((W ++ GB) ++ EX).size : Nat) : Int) = (W.size : Int) + (GB.size : Int) + (EX.size : Int) := by rw [ByteArray.size_append, ByteArray.size_append]; omega
            rw [toksCells_snoc, e1, e2]
            exact HO8.out
          · exact (((pw_below_drewN (hbw5.out.alloc hs5 _) nq).setCell (p := ⟨w5.heap.size, 2, none⟩) hs5 _).alloc (by simp; omega) _).grown HG8.out (by simp; omega) (fun k' hk' => own_base hown5.out k' hk')
      | zero =>
        have hd : d = L.length := by omega
        subst hd
        have hdl : ¬ ((L.length : Int) < (L.length : Int)) := by omega
        have ht1 := HTOT.out
        have hv1 := HMV.out
        rw [List.drop_eq_nil_of_le (by omega)] at ht1 hv1
        rw [movedT, List.append_nil] at hv1
        obtain ⟨GB, hGB⟩ : ∃ x : ByteArray, (⟨(blanksL 3).toArray⟩ : ByteArray) = x := ⟨_, rfl⟩
        have hgs : GB.size ≤ 12 := by rw [← hGB, ba_size, blanksL_len _ (by omega)]; omega
        have hbl : hallmarklaw04_blanks.f 30 (3 : Int) = some GB := by
          show hallmarklaw04_blanks.f 30 ((3 : Nat) : Int) = _
          rw [← hGB]
          exact blanks_at _ 30 (by omega) (by omega)
        have hsc : tscanR (W ++ GB) = (want, 0, 0) := by
          rw [hv1, ← HM.out]
          refine HFIN.out _ ?_
          rw [HTT.out, ← hGB, ba_append]
          exact ht1
        have q1 : W.size + GB.size ≤ 9223372036854775807 := by omega
        have HS2 : Hid (∀ W', Tabs W' → _) := fun W' (hW : Tabs W') => token_Scan.calls (W ++ GB) want 0 0 W' hW (by rw [tscan_f (W ++ GB) (by rw [ByteArray.size_append]; omega), hsc])
        have hwl2 : want.length ≤ 1048576 := by omega
        have HBL := Lib.hid hbl
        obtain ⟨A1, c1, rfl⟩ := own_slice hown.out
        have HRW : Hid (Kd.R k31 31 wr w2.heap.size (fun _ => True) (.slice A1 L.length c1) want) := by
          show Kd.R _ _ _ _ _ _ _
          exact toks_R (by rw [hwl]; exact hown.out)
        have HB3 := Lib.hid (HB2.out.trans (hbw.out.mono HB2.out.size))
        have HWL := Lib.hid hwl
        clear hsc hbl hGB hv1 ht1 hwl
        go_wp2_with (first
          | (go_at_call 15; go_must ((with_reducible refine (hallmarklaw04_blanks.calls 30 _ GB _ HBL.out).mono ?_); rintro e5 w5 ⟨rfl, hb5⟩; have HRW5 := Lib.hid (Kd.R_below HRW.out hb5); have HB5 := Lib.hid (HB3.out.trans (hb5.mono HB3.out.size)); clear hb5))
          | (go_at_call 8; (with_reducible refine (HS2.out _ (HT.out.below HB5.out)).mono ?_); go_must (rintro e6 w6 ⟨v6, rfl, hR6, hb6⟩; have HR6 := Lib.hid hR6; clear hR6; obtain ⟨A6, c6, rfl⟩ := Kd.R_slice HR6.out; have HRW6 := Lib.hid (Kd.R_below HRW5.out hb6); have HB6 := Lib.hid (HB5.out.trans (hb6.mono HB5.out.size)); clear hb6 HRW5)))
        obtain ⟨r1, r2, r3⟩ := Kd.R_reads' HR6.out
        obtain ⟨r4, r5, r6⟩ := Kd.R_reads' HRW6.out
        have hst := hallmarkkit_SameTokens.calls (want.length + 1) A6 c6 want A1 c1 want true w6 r3 r2 r6 (by omega) (same_tokens want (by omega) (want.length + 1) (by omega))
        have he1 : Value.slice A1 want.length c1 = Value.slice A1 L.length c1 := by rw [HWL.out]
        rw [he1] at hst
        clear he1
        (with_reducible refine hst.mono ?_)
        rintro e7 w7 ⟨rfl, hb7⟩
        have HB7 := Lib.hid (HB6.out.trans (hb7.mono HB6.out.size))
        clear hb7 r1 r2 r3 r4 r5 r6 hst
        go_wp2
        go_ret
        exact ⟨rfl, HB7.out⟩
set_option maxHeartbeats 16000000 in
set_option maxRecDepth 100000 in
theorem gaps_hi (a0 : ByteArray) (a1 : Int) (h : a0.size ≤ 1048576) (ha : 9 < a1) (w : World) (hT : Tabs w) :
    Calls Tryd.prog 6 #[.string a0, .int .i64 a1] w fun e w' => e = .returned (.bool true) ∧ Below w.heap.size w w' := by
  have ha0 : ¬ a1 < 0 := by omega
  obtain ⟨i0, hi0, hz0, hz1, hz2⟩ := info_parts info31
  have HI := Lib.hid hi0
  have HZ0 := Lib.hid hz0
  have HZ1 := Lib.hid hz1
  have HZ2 := Lib.hid hz2
  clear hi0 hz0 hz1 hz2
  obtain ⟨⟨L, e, p⟩, hL⟩ : ∃ R, tscanR a0 = R := ⟨_, rfl⟩
  have htold := gaps_told a0 h 3 (by omega) L e p hL
  have HK : Hid (∀ W, Tabs W → _) := fun W (hW : Tabs W) => hallmarklaw04_TokenKnown.calls 30 true W hW (tknown_at 30 (Nat.le_refl _))
  have HS : Hid (∀ W, Tabs W → _) := fun W (hW : Tabs W) => token_Scan.calls a0 L e p W hW (by rw [tscan_f a0 (by omega), hL])
  have HT := Lib.hid hT
  clear hT hL
  rcases htold with ⟨he, hLn⟩ | ⟨he, hn, hB, htot, hfin⟩
  · subst hLn
    have he' : (e != 0) = true := bne_iff_ne.2 he
    clear he
    go_enter Tryd.func6, Tryd.ntmps6
    go_wp2_with (first
      | (go_at_call 3; (with_reducible refine (HK.out _ HT.out).mono ?_); rintro e1 w1 ⟨rfl, hb1⟩; have HB1 := Lib.hid hb1; clear hb1)
      | (go_at_call 8; (with_reducible refine (HS.out _ (HT.out.below HB1.out)).mono ?_); rintro e2 w2 ⟨v, rfl, hR, hb2⟩; have HR := Lib.hid hR; clear hR; obtain ⟨A, c, rfl⟩ := Kd.R_slice HR.out; have HB2 := Lib.hid (HB1.out.trans (hb2.mono HB1.out.size)); clear hb2))
    go_ret
    exact ⟨rfl, HB2.out⟩
  · subst he
    have HBD := Lib.hid hB
    have HFIN := Lib.hid hfin
    obtain ⟨tot, htt⟩ : ∃ x, wideT (gapAt 3) (blanksL 3) a0 0 L = x := ⟨_, rfl⟩
    obtain ⟨M, hM⟩ : ∃ x, movedT (gapAt 3) 0 0 L = x := ⟨_, rfl⟩
    rw [htt] at htot
    have HTT := Lib.hid htt
    have HM := Lib.hid hM
    clear hB hfin htt hM
    go_enter Tryd.func6, Tryd.ntmps6
    go_wp2_with (first
      | (go_at_call 3; (with_reducible refine (HK.out _ HT.out).mono ?_); rintro e1 w1 ⟨rfl, hb1⟩; have HB1 := Lib.hid hb1; clear hb1)
      | (go_at_call 8; (with_reducible refine (HS.out _ (HT.out.below HB1.out)).mono ?_); rintro e2 w2 ⟨v, rfl, hR, hb2⟩; have HR := Lib.hid hR; clear hR; obtain ⟨A, c, rfl⟩ := Kd.R_slice HR.out; have HB2 := Lib.hid (HB1.out.trans (hb2.mono HB1.out.size)); clear hb2))
    go_loopg [8, 9, 10] L.length (fun g v8 v9 v10 wx => ∃ (d : Nat) (vo : Value) (W : ByteArray) (want : List Tok), vo = v9 ∧ v8 = .string W ∧ v10 = .int .i64 d ∧ d + g = L.length ∧ want.length = d ∧ Hid (W.data.toList ++ wideT (gapAt 3) (blanksL 3) a0 d (L.drop d) = tot) ∧ Hid (want ++ movedT (gapAt 3) d W.size (L.drop d) = M) ∧ Hid (wx.ownsRow w2.heap.size 31 4 vo d (toksCells want)) ∧ Hid (Below w2.heap.size w2 wx))
    case atStart => exact ⟨0, _, ⟨#[]⟩, [], rfl, rfl, rfl, by omega, rfl, by rw [List.drop_zero]; exact HTT.out, by rw [List.drop_zero]; exact HM.out, own_nil _ _ _ _, Below.refl _ _⟩
    case round =>
      obtain ⟨d, vo, W, want, hvo, rfl, rfl, hdg, hwl, HTOT, HMV, hown, hbw⟩ := hrel
      subst hvo
      have hWs : W.size ≤ 20000000 := by
        have := congrArg List.length HTOT.out
        rw [List.length_append, ← Lib.size_eq] at this
        omega
      cases gk with
      | succ g =>
        have hlt : d < L.length := by omega
        have hdl : ((d : Int) < (L.length : Int)) := by omega
        have hd0 : (0 : Int) ≤ (d : Int) := by omega
        obtain ⟨ad, hAd, hx0, hx1, hx2, hx3⟩ := at_T31 (Kd.R_reads' HR.out).2.2 d hd0 hdl
        subst hAd
        rw [rd_tok L d hlt] at hx0 hx1 hx2 hx3
        have hmt := HBD.out _ (List.getElem_mem hlt)
        obtain ⟨t, ht⟩ : ∃ t, L[d] = t := ⟨_, rfl⟩
        rw [ht] at hx0 hx1 hx2 hx3 hmt
        have hst := gaps_step a0 3 (by omega) L d hlt W want L M tot t ht hmt HTOT.out HMV.out
        obtain ⟨GB, hGB⟩ : ∃ x : ByteArray, (⟨(blanksL (3 + d % 2 + 1)).toArray⟩ : ByteArray) = x := ⟨_, rfl⟩
        have hgs : GB.size ≤ 12 := by rw [← hGB, ba_size, blanksL_len _ (by omega)]; omega
        have hbl : hallmarklaw04_blanks.f 30 ((3 : Int) + (d : Int) % 2 + 1) = some GB := by
          rw [show ((3 : Int) + (d : Int) % 2 + 1) = ((3 + d % 2 + 1 : Nat) : Int) by omega, ← hGB]
          exact blanks_at _ 30 (by omega) (by omega)
        rw [hGB] at hst
        clear ht hGB
        obtain ⟨k, x1, x2, tx⟩ := t
        simp only at hx0 hx1 hx2 hx3 hmt hst
        obtain ⟨b1, b2, b3⟩ := hmt
        obtain ⟨EX, hEX⟩ : ∃ x : ByteArray, a0.extract x1.toNat x2.toNat = x := ⟨_, rfl⟩
        have hes : EX.size ≤ 1048576 := by rw [← hEX, ByteArray.size_extract]; omega
        rw [hEX] at hst
        have y0 := tabs_cell hbw.out hx0
        have y1 := tabs_cell hbw.out hx1
        have y2 := tabs_cell hbw.out hx2
        have y3 := tabs_cell hbw.out hx3
        rw [Int.toNat_natCast] at y0 y1 y2 y3
        have HST := Lib.hid hst
        have HEX := Lib.hid hEX
        have HBL := Lib.hid hbl
        have HWL := Lib.hid hwl
        have hwl2 : want.length ≤ d := by omega
        clear hx0 hx1 hx2 hx3 hst hEX hbl hwl
        have d1 : decide (x1 < 0) = false := decide_eq_false (by omega)
        have d2 : decide (x2 < x1) = false := decide_eq_false (by omega)
        have d3 : decide ((a0.size : Int) < x2) = false := decide_eq_false (by omega)
        have q1 : W.size + GB.size ≤ 9223372036854775807 := by omega
        have q2 : W.size + GB.size + EX.size ≤ 9223372036854775807 := by omega
        have b4 : x1 ≤ x2 := by omega
        go_wp2_with fail
        go_quiet (fail)
        go_wp2_with (go_at_call 15; go_must ((with_reducible refine (hallmarklaw04_blanks.calls 30 _ GB _ HBL.out).mono ?_); rintro e5 w5 ⟨rfl, hb5⟩; have u0 := tabs_cell hb5 y0; have u1 := tabs_cell hb5 y1; have u2 := tabs_cell hb5 y2; have u3 := tabs_cell hb5 y3; have hown5 := Lib.hid (own_under (own_dr hown.out nq) hb5); have hbw5 := Lib.hid ((pw_below_drewN hbw.out nq).trans (hb5.mono hbw.out.size)); clear hb5 y0 y1 y2 y3))
        have z1 := fun o => tabs_cell ((Below.refl w5.heap.size w5).alloc (Nat.le_refl _) o) u1
        have z2 := fun o => tabs_cell ((Below.refl w5.heap.size w5).alloc (Nat.le_refl _) o) u2
        clear u0 u1 u2 u3
        go_quiet (fail)
        rw [HEX.out]
        have hs5 := hbw5.out.size
        have hnb : some w5.heap.size ≠ vo.ownBlock := fun e => by have := own_lt hown5.out _ e.symm; omega
        have HNB := Lib.hid hnb
        clear hnb z1 z2
        go_wp2_with (at_builtin; go_must (refine wpList_append_own _ rfl (.tmp 100) (.tmp 102) 22 rfl w2.heap.size 31 i0 _ 4 40 Tryd.underlying22 HI.out HZ0.out HZ1.out HZ2.out rfl (by decide) vo d (toksCells want) rfl ?c0 _ 1 1 [.int .i64 k, .int .i64 ((W.size : Int) + (GB.size : Int)), .int .i64 ((W.size : Int) + (GB.size : Int) + (EX.size : Int)), .string tx] rfl rfl ?c1 ?c2 ?c3 ?c4 ?c5 ?_; (case c0 => exact World.ownsRow.alloc (own_setCell (own_dr (hown5.out.alloc _) nq) (p := ⟨w5.heap.size, 2, none⟩) HNB.out _) _); (case c1 => exact World.news_of_block (cs := #[.int .i64 k, .int .i64 ((W.size : Int) + (GB.size : Int)), .int .i64 ((W.size : Int) + (GB.size : Int) + (EX.size : Int)), .string tx]) (t := 31) (fr := (0, 0)) (by simpa using heap_alloc_new (((w5.alloc (.cells #[.int .i64 k, .int .i64 ((W.size : Int) + (GB.size : Int)), .int .i64 x2, .string tx] 31)).drewN nq).setCell ⟨w5.heap.size, 2, none⟩ (.int .i64 ((W.size : Int) + (GB.size : Int) + (EX.size : Int)))) (.cells #[.int .i64 k, .int .i64 ((W.size : Int) + (GB.size : Int)), .int .i64 ((W.size : Int) + (GB.size : Int) + (EX.size : Int)), .string tx] 31))); (case c2 => simp [Value.oneCell']); (case c3 => unfold maxLen; omega); (case c4 => omega); (case c5 => simp; omega); intro v8 w8 hown8 hg8 _; have HO8 := Lib.hid hown8; have HG8 := Lib.hid hg8; clear hown8 hg8))
        go_roundg g
        case measure => omega
        case rel =>
          refine ⟨d + 1, v8, (W ++ GB) ++ EX, _, rfl, rfl, by go_num, by omega, ?_, HST.out.1, HST.out.2, ?_, ?_⟩
          · rw [List.length_append, List.length_singleton, HWL.out]
          · show World.ownsRow _ _ _ _ _ _ _
            have e1 : (((W ++ GB).size : Nat) : Int) = (W.size : Int) + (GB.size : Int) := by rw [ByteArray.size_append]; omega
            have e2 : ((((W ++ GB) ++ EX).size : Nat) : Int) = (W.size : Int) + (GB.size : Int) + (EX.size : Int) := by rw [ByteArray.size_append, ByteArray.size_append]; omega
            rw [toksCells_snoc, e1, e2]
            exact HO8.out
          · exact (((pw_below_drewN (hbw5.out.alloc hs5 _) nq).setCell (p := ⟨w5.heap.size, 2, none⟩) hs5 _).alloc (by simp; omega) _).grown HG8.out (by simp; omega) (fun k' hk' => own_base hown5.out k' hk')
      | zero =>
        have hd : d = L.length := by omega
        subst hd
        have hdl : ¬ ((L.length : Int) < (L.length : Int)) := by omega
        have ht1 := HTOT.out
        have hv1 := HMV.out
        rw [List.drop_eq_nil_of_le (by omega)] at ht1 hv1
        rw [movedT, List.append_nil] at hv1
        obtain ⟨GB, hGB⟩ : ∃ x : ByteArray, (⟨(blanksL 3).toArray⟩ : ByteArray) = x := ⟨_, rfl⟩
        have hgs : GB.size ≤ 12 := by rw [← hGB, ba_size, blanksL_len _ (by omega)]; omega
        have hbl : hallmarklaw04_blanks.f 30 (3 : Int) = some GB := by
          show hallmarklaw04_blanks.f 30 ((3 : Nat) : Int) = _
          rw [← hGB]
          exact blanks_at _ 30 (by omega) (by omega)
        have hsc : tscanR (W ++ GB) = (want, 0, 0) := by
          rw [hv1, ← HM.out]
          refine HFIN.out _ ?_
          rw [HTT.out, ← hGB, ba_append]
          exact ht1
        have q1 : W.size + GB.size ≤ 9223372036854775807 := by omega
        have HS2 : Hid (∀ W', Tabs W' → _) := fun W' (hW : Tabs W') => token_Scan.calls (W ++ GB) want 0 0 W' hW (by rw [tscan_f (W ++ GB) (by rw [ByteArray.size_append]; omega), hsc])
        have hwl2 : want.length ≤ 1048576 := by omega
        have HBL := Lib.hid hbl
        obtain ⟨A1, c1, rfl⟩ := own_slice hown.out
        have HRW : Hid (Kd.R k31 31 wr w2.heap.size (fun _ => True) (.slice A1 L.length c1) want) := by
          show Kd.R _ _ _ _ _ _ _
          exact toks_R (by rw [hwl]; exact hown.out)
        have HB3 := Lib.hid (HB2.out.trans (hbw.out.mono HB2.out.size))
        have HWL := Lib.hid hwl
        clear hsc hbl hGB hv1 ht1 hwl
        go_wp2_with (first
          | (go_at_call 15; go_must ((with_reducible refine (hallmarklaw04_blanks.calls 30 _ GB _ HBL.out).mono ?_); rintro e5 w5 ⟨rfl, hb5⟩; have HRW5 := Lib.hid (Kd.R_below HRW.out hb5); have HB5 := Lib.hid (HB3.out.trans (hb5.mono HB3.out.size)); clear hb5))
          | (go_at_call 8; (with_reducible refine (HS2.out _ (HT.out.below HB5.out)).mono ?_); go_must (rintro e6 w6 ⟨v6, rfl, hR6, hb6⟩; have HR6 := Lib.hid hR6; clear hR6; obtain ⟨A6, c6, rfl⟩ := Kd.R_slice HR6.out; have HRW6 := Lib.hid (Kd.R_below HRW5.out hb6); have HB6 := Lib.hid (HB5.out.trans (hb6.mono HB5.out.size)); clear hb6 HRW5)))
        obtain ⟨r1, r2, r3⟩ := Kd.R_reads' HR6.out
        obtain ⟨r4, r5, r6⟩ := Kd.R_reads' HRW6.out
        have hst := hallmarkkit_SameTokens.calls (want.length + 1) A6 c6 want A1 c1 want true w6 r3 r2 r6 (by omega) (same_tokens want (by omega) (want.length + 1) (by omega))
        have he1 : Value.slice A1 want.length c1 = Value.slice A1 L.length c1 := by rw [HWL.out]
        rw [he1] at hst
        clear he1
        (with_reducible refine hst.mono ?_)
        rintro e7 w7 ⟨rfl, hb7⟩
        have HB7 := Lib.hid (HB6.out.trans (hb7.mono HB6.out.size))
        clear hb7 r1 r2 r3 r4 r5 r6 hst
        go_wp2
        go_ret
        exact ⟨rfl, HB7.out⟩
theorem gaps_calls (a0 : ByteArray) (a1 : Int) (h0 : a0.size ≤ 1048576) (h1 : (Lit.int .i64 a1).wf = true) (w : World) (hT : Tabs w) :
    Calls Tryd.prog 6 #[.string a0, .int .i64 a1] w fun e w' => e = .returned (.bool true) ∧ Below w.heap.size w w' := by
  by_cases c : a1 < 0
  · exact gaps_lo a0 a1 h0 c w hT
  by_cases d : 9 < a1
  · exact gaps_hi a0 a1 h0 d w hT
  obtain ⟨m, hm⟩ : ∃ m : Nat, a1 = m := ⟨a1.toNat, by omega⟩
  subst hm
  exact gaps_in a0 m h0 (by omega) w hT
end Go.Proofs.YtkfcoikfhpabmaaDoor.U
