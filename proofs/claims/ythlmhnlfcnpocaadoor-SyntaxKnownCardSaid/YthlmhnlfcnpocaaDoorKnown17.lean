/- SyntaxKnown: the examples are read as the document says. -/
import Derived.Test.YthlmhnlfcnpocaaDoorParseAll
import Derived.Test.YthlmhnlfcnpocaaDoorUL0x1
namespace Go.Proofs.YthlmhnlfcnpocaaDoor.U
open Go.RowKit Go.Proofs.YthlmhnlfcnpocaaDoorW.PrintWords
set_option linter.unusedSimpArgs false
set_option linter.unusedVariables false

set_option maxRecDepth 100000 in
theorem refused_ok : ∀ n : Nat, n < 12 → ∃ (r1 : ByteArray) (r2 r3 : Int), hallmarklaw17_refused.f (n : Int) = some (r1, r2, r3) ∧ r1.size ≤ 1073741824 ∧ (parseZ r1).2 = (r2, r3)
  | 0, _ => ⟨⟨#[49, 32, 43, 32, 46, 32, 97, 115, 32, 36, 120, 32, 124, 32, 50]⟩, 171, 6, by kernel_rfl, by decide, by kernel_rfl⟩
  | 1, _ => ⟨⟨#[49, 32, 61, 32, 50, 32, 61, 32, 51]⟩, 171, 6, by kernel_rfl, by decide, by kernel_rfl⟩
  | 2, _ => ⟨⟨#[49, 32, 60, 32, 50, 32, 60, 32, 51]⟩, 171, 6, by kernel_rfl, by decide, by kernel_rfl⟩
  | 3, _ => ⟨⟨#[46, 91, 58, 93]⟩, 171, 3, by kernel_rfl, by decide, by kernel_rfl⟩
  | 4, _ => ⟨⟨#[]⟩, 170, 0, by kernel_rfl, by decide, by kernel_rfl⟩
  | 5, _ => ⟨⟨#[35, 120]⟩, 170, 2, by kernel_rfl, by decide, by kernel_rfl⟩
  | 6, _ => ⟨⟨#[91, 49]⟩, 170, 2, by kernel_rfl, by decide, by kernel_rfl⟩
  | 7, _ => ⟨⟨#[100, 101, 102, 32, 102, 58, 32, 49, 59]⟩, 170, 9, by kernel_rfl, by decide, by kernel_rfl⟩
  | 8, _ => ⟨⟨#[123, 40, 49, 41, 125]⟩, 171, 4, by kernel_rfl, by decide, by kernel_rfl⟩
  | 9, _ => ⟨⟨#[114, 101, 100, 117, 99, 101, 32, 49, 32, 43, 32, 50, 32, 97, 115, 32, 36, 120, 32, 40, 48, 59, 32, 46, 41]⟩, 171, 9, by kernel_rfl, by decide, by kernel_rfl⟩
  | 10, _ => ⟨⟨#[105, 102, 32, 49, 32, 116, 104, 101, 110, 32, 50]⟩, 170, 11, by kernel_rfl, by decide, by kernel_rfl⟩
  | 11, _ => ⟨⟨#[36]⟩, 160, 0, by kernel_rfl, by decide, by kernel_rfl⟩
  | n + 12, h => absurd h (by omega)
theorem below_drawn {B : Nat} {a w w' : World} (h : Below B a w) (hd : Drawn0 w w') : Below B a w' := by
  obtain ⟨n, rfl⟩ := hd.out
  exact ⟨h.os, h.tape, h.output, h.size, h.block⟩
def parens (n : Nat) : ByteArray := ⟨Array.replicate n 40⟩
theorem parens_succ (n : Nat) : parens n ++ ⟨#[40]⟩ = parens (n + 1) := by
  apply ByteArray.ext
  simp [parens, ByteArray.data_append, Array.replicate_succ]
theorem parens_size (n : Nat) : (parens n).size = n := by simp [parens, ByteArray.size]
theorem known_a : parseZ ⟨#[46, 97, 32, 47, 47, 32, 49, 32, 47, 47, 32, 50]⟩ = (nd 27 3 [nd 7 0 [nd 1 0 [], txt ⟨#[97]⟩ 0], nd 27 8 [.mk 2 6 ⟨#[]⟩ 3 ⟨#[49]⟩ ⟨#[]⟩ [] [], .mk 2 11 ⟨#[]⟩ 3 ⟨#[50]⟩ ⟨#[]⟩ [] []]], 0, 0) := by kernel_rfl
theorem known_b : (parseZ (parens 65)).2 = (172, 64) := by kernel_rfl
theorem known_c : (parseZ (parens 64)).2 = (170, 64) := by kernel_rfl

set_option maxHeartbeats 8000000 in
set_option maxRecDepth 100000 in
theorem known_calls (W : World) (hT : Tabs W) (hB : BinAt W) : Calls Tryd.prog 4 #[] W fun e w' => e = .returned (.bool true) ∧ Below W.heap.size W w' := by
  have HT := Lib.hid hT
  have HB := Lib.hid hB
  clear hT hB
  go_enter Tryd.func4, Tryd.ntmps4
  go_wp2
  go_loopg [1] 12 (fun g v wx => ∃ n : Nat, n ≤ 12 ∧ v = .int .i64 n ∧ g = 12 - n ∧ Hid (Below W.heap.size W wx))
  case atStart => exact ⟨0, by omega, rfl, rfl, Below.refl _ W⟩
  case round =>
    obtain ⟨n, hn, rfl, hg, hb⟩ := hrel
    by_cases hn2 : n < 12
    · obtain ⟨r1, r2, r3, hr, hs, hp⟩ := refused_ok n hn2
      have hlt : (n : Int) < 12 := by omega
      have HR := Lib.hid hr
      have HP := Lib.hid hp
      clear hr hp
      go_wp2_with (first
        | (go_at_call 9; (with_reducible refine (hallmarklaw17_refused.calls _ r1 r2 r3 _ HR.out).mono ?_); rintro e0 w0 ⟨rfl, hd⟩; have hbd := Lib.hid (below_drawn hb.out hd); clear hd)
        | (go_at_call 6; (with_reducible refine (parse_calls r1 hs _ (HT.out.below hbd.out) (HB.out.below hbd.out)).mono ?_); rintro e0 w1 ⟨c, rfl, hn, hb1⟩; rw [HP.out]; have hsz := hn.size; have hone := hn.one; have Hb1 := Lib.hid (below_join hbd.out hb1); clear hn hb1)
        | (refine st_nodeO rfl _ _ rfl w1.heap.size c rfl rfl zeroN (heap_alloc_new w1 (.cells zeroN 28 (0, 0))) hsz rfl hone ?_; intro w2 hw2; obtain ⟨hb2, hr2, hz2⟩ := laid_node hw2; have Hb2 := Lib.hid (below_join Hb1.out hb2); clear hw2 hb2 hr2))
      go_roundg (12 - (n + 1))
      case measure => omega
      case rel => exact ⟨n + 1, by omega, by simp, rfl, Hb2⟩
    · have he : n = 12 := by omega
      subst he
      have hS := Lib.hid parens_succ
      go_wp2_with (first
        | (go_at_call 6; (with_reducible refine (parse_calls ⟨#[46, 97, 32, 47, 47, 32, 49, 32, 47, 47, 32, 50]⟩ (by decide) _ (HT.out.below hb.out) (HB.out.below hb.out)).mono ?_); rintro e0 w1 ⟨c, rfl, hn, hb1⟩; rw [known_a] at hn ⊢; have hsz := hn.size; have hone := hn.one; have Hn := Lib.hid hn; have Hb1 := Lib.hid (below_join hb.out hb1); clear hn hb1)
        | (refine st_nodeO rfl _ _ rfl w1.heap.size c rfl rfl zeroN (heap_alloc_new w1 (.cells zeroN 28 (0, 0))) hsz rfl hone ?_; intro w2 hw2; obtain ⟨hb2, hr2, hz2⟩ := laid_node hw2; have Hb2 := Lib.hid (below_join Hb1.out hb2); obtain ⟨An, capn, Ak, capk, rfl, -, hk⟩ := Nd.inv Hn.out; obtain ⟨g, cj, rfl, hcj, hm⟩ := hk 0 (by decide); obtain ⟨An2, capn2, Ak2, capk2, rfl, -, -⟩ := Nd.inv hcj; obtain ⟨g3, cj3, hg3, hcj3, hm3⟩ := hk 1 (by decide); injection hg3 with hg3; injection hg3 with hg3 _ _; subst hg3; obtain ⟨An4, capn4, Ak4, capk4, rfl, -, -⟩ := Nd.inv hcj3; have q0 := cell_of_row _ _ 0 _ _ _ hr2; have q9 := cell_of_row _ _ 9 _ _ _ hr2; have qk := cell_below ((hm 0 (by decide)).trans rfl) hb2; have ql := cell_below ((hm3 0 (by decide)).trans rfl) hb2; clear hw2 hb2 hr2 hk hm hm3 hcj hcj3; change w2.cell? ⟨w1.heap.size, 0, none⟩ = some (.int .i64 27) at q0; change w2.cell? ⟨w1.heap.size, 9, none⟩ = some (.slice (some ⟨g, 0, none⟩) 2 capk) at q9; change w2.cell? ⟨g, 0, none⟩ = some (.int .i64 7) at qk; change w2.cell? ⟨g, 10, none⟩ = some (.int .i64 27) at ql))
      clear q0 q9 qk ql Hn Hb1
      go_loopg [11, 12] 64 (fun g v u wx => ∃ n : Nat, n ≤ 64 ∧ v = .string (parens n) ∧ u = .int .i64 n ∧ g = 64 - n ∧ Hid (Below W.heap.size W wx))
      case atStart => exact ⟨0, by omega, rfl, rfl, rfl, Hb2⟩
      case round =>
        obtain ⟨n, hn, rfl, rfl, hg, hb5⟩ := hrel
        by_cases hn2 : n < 64
        · have hlt : (n : Int) < 64 := by omega
          have hps := parens_size n
          go_wp2
          go_roundg (64 - (n + 1))
          case measure => omega
          case rel => exact ⟨n + 1, by omega, congrArg Value.string (hS.out n), by simp, rfl, hb5⟩
        · have he : n = 64 := by omega
          subst he
          have e65 : parens 64 ++ ⟨#[40]⟩ = parens 65 := hS.out 64
          have hps := parens_size 64
          go_wp2_with (first
            | (go_at_call 6; (with_reducible refine (parse_calls (parens 65) (by rw [parens_size]; decide) _ (HT.out.below hb5.out) (HB.out.below hb5.out)).mono ?_); rintro e0 w3 ⟨c3, rfl, hn3, hb6⟩; rw [known_b]; have hsz3 := hn3.size; have hone3 := hn3.one; have Hb6 := Lib.hid (below_join hb5.out hb6); clear hn3 hb6)
            | (refine st_nodeO rfl _ _ rfl w3.heap.size c3 rfl rfl zeroN (heap_alloc_new w3 (.cells zeroN 28 (0, 0))) hsz3 rfl hone3 ?_; intro w4 hw4; obtain ⟨hb7, -, -⟩ := laid_node hw4; have Hb7 := Lib.hid (below_join Hb6.out hb7); clear hw4 hb7)
            | (go_at_call 6; (with_reducible refine (parse_calls (parens 64) (by rw [parens_size]; decide) _ (HT.out.below Hb7.out) (HB.out.below Hb7.out)).mono ?_); rintro e0 w5 ⟨c5, rfl, hn5, hb8⟩; rw [known_c]; have hsz5 := hn5.size; have hone5 := hn5.one; have Hb8 := Lib.hid (below_join Hb7.out hb8); clear hn5 hb8)
            | (refine st_nodeO rfl _ _ rfl w5.heap.size c5 rfl rfl zeroN (heap_alloc_new w5 (.cells zeroN 28 (0, 0))) hsz5 rfl hone5 ?_; intro w6 hw6; obtain ⟨hb9, -, -⟩ := laid_node hw6; have Hb9 := Lib.hid (below_join Hb8.out hb9); clear hw6 hb9)
            | (go_at_call 8; (with_reducible refine (works_calls _ (HT.out.below Hb9.out) (HB.out.below Hb9.out)).mono ?_); rintro e0 w7 ⟨rfl, hb10⟩; have Hb10 := Lib.hid (below_join Hb9.out hb10); clear hb10))
          go_ret
          exact ⟨rfl, Hb10.out⟩
end Go.Proofs.YthlmhnlfcnpocaaDoor.U
