/- The contract of the cutter's numeral. -/
import Derived.Test.YtkfcoikfhpabmaaDoorTokAll
import Derived.Test.YtkfcoikfhpabmaaDoorShelf
import Derived.OwnWalk
import Derived.Deep.LoopGhost
import Derived.Deep.QuietTactic
import Derived.BigQuiet
import Derived.Deep.RegionWith
import Derived.Deep.RegionLaw
import Derived.StillTailTactics
import Derived.IntWalk
import Derived.Outline
import Derived.Deep.DeepMust
import Derived.Lib.Hide
namespace Go.Proofs.YtkfcoikfhpabmaaDoor.U
open Go.RowKit Go.Proofs.YtkfcoikfhpabmaaDoorW.PrintWords
set_option linter.unusedSimpArgs false
set_option linter.unusedVariables false

/-- the cutter in memory -/
def CutAt (w : World) (b : Nat) (s : ByteArray) (i pl : Int) : Prop := w.heap[b]? = some (.cells #[.string s, .int .i64 i, .int .i64 pl] 46 (0, 0))
/-- what a method leaves: new blocks, and the cutter's own cells -/
structure Moved (b : Nat) (w w' : World) : Prop where
  below : Below b w w'
  same : ∀ k, k < w.heap.size → k ≠ b → w'.heap[k]? = w.heap[k]?
section
variable {w w' w'' : World} {b : Nat} {s : ByteArray} {i pl : Int}
theorem CutAt.lt (h : CutAt w b s i pl) : b < w.heap.size := (Array.getElem?_eq_some_iff.1 h).1
theorem CutAt.c0 (h : CutAt w b s i pl) : w.cell? ⟨b, 0, none⟩ = some (.string s) := (blk_cell h 0).trans rfl
theorem CutAt.c1 (h : CutAt w b s i pl) : w.cell? ⟨b, 1, none⟩ = some (.int .i64 i) := (blk_cell h 1).trans rfl
theorem CutAt.c2 (h : CutAt w b s i pl) : w.cell? ⟨b, 2, none⟩ = some (.int .i64 pl) := (blk_cell h 2).trans rfl
theorem CutAt.fr (h : CutAt w b s i pl) (j : Nat) : w.frozen? ⟨b, j, none⟩ = false := blk_frozen h j
theorem CutAt.alloc (h : CutAt w b s i pl) (o : Obj) : CutAt (w.alloc o) b s i pl := blk_alloc h o
theorem CutAt.drew (h : CutAt w b s i pl) : CutAt w.drew b s i pl := h
theorem CutAt.drewN (h : CutAt w b s i pl) (n : Nat) : CutAt (w.drewN n) b s i pl := h
theorem CutAt.far (h : CutAt w b s i pl) {g : Nat} (hg : b ≠ g) (j : Nat) (u : Value) : CutAt (w.setCell ⟨g, j, none⟩ u) b s i pl := blk_far h (p := ⟨g, j, none⟩) hg u
theorem CutAt.place (h : CutAt w b s i pl) (x : Int) : CutAt (w.setCell ⟨b, 2, none⟩ (.int .i64 x)) b s i x := blk_set h 2 (.int .i64 x)
theorem CutAt.at (h : CutAt w b s i pl) (x : Int) : CutAt (w.setCell ⟨b, 1, none⟩ (.int .i64 x)) b s x pl := blk_set h 1 (.int .i64 x)
theorem CutAt.below (h : CutAt w b s i pl) (hb : Below w.heap.size w w') : CutAt w' b s i pl := blk_below h hb
theorem Moved.refl : Moved b w w := ⟨Below.refl _ _, fun _ _ _ => rfl⟩
theorem Moved.trans (h : Moved b w w') (k : Moved b w' w'') : Moved b w w'' := ⟨h.below.trans k.below, fun j hj hne => (k.same j (by have := h.below.size; omega) hne).trans (h.same j hj hne)⟩
theorem Moved.alloc (h : Moved b w w') (hb : b ≤ w'.heap.size) (o : Obj) : Moved b w (w'.alloc o) := ⟨h.below.alloc hb o, fun j hj hne => (Below.heap_alloc w' o j (by have := h.below.size; omega)).trans (h.same j hj hne)⟩
theorem Moved.drew (h : Moved b w w') : Moved b w w'.drew := ⟨h.below.drew, h.same⟩
theorem Moved.drewN (h : Moved b w w') (n : Nat) : Moved b w (w'.drewN n) := ⟨pw_below_drewN h.below n, h.same⟩
theorem Moved.own (h : Moved b w w') (j : Nat) (u : Value) : Moved b w (w'.setCell ⟨b, j, none⟩ u) := ⟨h.below.setCell (p := ⟨b, j, none⟩) (Nat.le_refl _) u, fun k hk hne => (Below.heap_setCell w' ⟨b, j, none⟩ u k hne).trans (h.same k hk hne)⟩
theorem Moved.new (h : Moved b w w') {g : Nat} (hg : w.heap.size ≤ g) (hb : b ≤ g) (j : Nat) (u : Value) : Moved b w (w'.setCell ⟨g, j, none⟩ u) := ⟨h.below.setCell (p := ⟨g, j, none⟩) hb u, fun k hk hne => (Below.heap_setCell w' ⟨g, j, none⟩ u k (by show k ≠ g; omega)).trans (h.same k hk hne)⟩
theorem Moved.of_below (hb : b < w.heap.size) (h : Below w.heap.size w w') : Moved b w w' := ⟨h.mono (by omega), fun j hj _ => h.block j hj⟩
end

def zeroTok : Value := .agg #[.int .i64 0, .int .i64 0, .int .i64 0, .string ByteArray.empty]
/-- what a method answers -/
def CutEnd (b : Nat) (s : ByteArray) (i : Nat) (pl : Int) (r : TokR) (w : World) (e : Ending) (w' : World) : Prop :=
  ((r.e = 0 ∧ e = .returned (.tuple #[.agg #[.int .i64 r.kind, .int .i64 i, .int .i64 r.pos, .string r.text], .int .i64 0]) ∧ CutAt w' b s i pl) ∨
   (r.e ≠ 0 ∧ e = .returned (.tuple #[zeroTok, .int .i64 r.e]) ∧ CutAt w' b s i r.place)) ∧ Moved b w w'


set_option maxHeartbeats 2000000 in
set_option maxRecDepth 100000 in
theorem none_calls {b : Nat} {s : ByteArray} {pl : Int} (i : Nat) (w : World) (h : CutAt w b s i pl) :
    Calls Tryd.prog 29 #[.pointer (some ⟨b, 0, none⟩)] w (CutEnd b s i pl ⟨40, i, 0, i, ⟨#[]⟩⟩ w) := by
  have c1 := h.c1
  have f2 := h.fr 2
  have H := Lib.hid h
  clear h
  go_enter Tryd.func29, Tryd.ntmps29
  go_wp2_with ((with_reducible refine gate_dst (N := 2) rfl ?_); refine box_event rfl (N := 2) rfl (cs := #[.int .i64 0, .int .i64 0, .int .i64 0, .string (⟨#[]⟩ : ByteArray)]) (t := 31) ?hr ?_; (case hr => first | (go_simp; done) | (go_simp; rfl)); intro g hg w1 hbox hb1; go_must (have g_0 : w1.cell? ⟨g, 0, none⟩ = some (.int .i64 0) := (blk_cell hbox 0).trans rfl; have g_1 : w1.cell? ⟨g, 1, none⟩ = some (.int .i64 0) := (blk_cell hbox 1).trans rfl; have g_2 : w1.cell? ⟨g, 2, none⟩ = some (.int .i64 0) := (blk_cell hbox 2).trans rfl; have g_3 : w1.cell? ⟨g, 3, none⟩ = some (.string ⟨#[]⟩) := (blk_cell hbox 3).trans rfl; have g_f0 := blk_frozen hbox 0; have g_f1 := blk_frozen hbox 1; have g_f2 := blk_frozen hbox 2; have g_f3 := blk_frozen hbox 3; have HB_g := Lib.hid hbox; have H_w1 := Lib.hid (CutAt.below H.out hb1); have M_w1 := Lib.hid (Moved.trans (Moved.refl (b := b) (w := w)) (Moved.of_below (CutAt.lt H.out) hb1)); have n1_g : ¬ b = g := (by have := CutAt.lt H.out; omega); have n2_g : ¬ g = b := (fun e => n1_g e.symm); have s_g : w.heap.size ≤ g := (by have := M_w1.out.below.size; have := ((Moved.refl (b := b) (w := w))).below.size; simp at *; omega); have t_g : b ≤ g := (by have := CutAt.lt H.out; simp at *; omega); have k0_w1 := H_w1.out.c0; have k1_w1 := H_w1.out.c1; have k2_w1 := H_w1.out.c2; have kf_w1 := H_w1.out.fr 2; have lt_g : g < w1.heap.size := blk_lt hbox; clear hg hbox hb1))
  have hch := blk_put (cs' := #[.int .i64 0, .int .i64 0, .int .i64 0, .string (⟨#[]⟩ : ByteArray)]) (blk_put (cs' := #[.int .i64 0, .int .i64 0, .int .i64 0, .string (⟨#[]⟩ : ByteArray)]) (blk_put (cs' := #[.int .i64 0, .int .i64 0, .int .i64 0, .string (⟨#[]⟩ : ByteArray)]) (blk_put (cs' := #[.int .i64 0, .int .i64 0, .int .i64 0, .string (⟨#[]⟩ : ByteArray)]) (blk_far HB_g.out (p := ⟨b, 2, none⟩) n2_g (.int .i64 i)) 0 (.int .i64 0) rfl) 1 (.int .i64 0) rfl) 2 (.int .i64 0) rfl) 3 (.string (⟨#[]⟩ : ByteArray)) rfl
  refine bodyPost_ret (results_ct rfl _ _ g 31 #[.int .i64 0, .int .i64 0, .int .i64 0, .string (⟨#[]⟩ : ByteArray)] (0, 0) _ rfl hch Tryd.underlying31 rfl (by kernel_rfl)) rfl ?_
  exact ⟨Or.inr ⟨by show (40 : Int) ≠ 0; decide, rfl, CutAt.far (CutAt.far (CutAt.far (CutAt.far (H_w1.out.place i) n1_g 0 _) n1_g 1 _) n1_g 2 _) n1_g 3 _⟩, Moved.new (Moved.new (Moved.new (Moved.new (Moved.own M_w1.out 2 (.int .i64 i)) s_g t_g 0 _) s_g t_g 1 _) s_g t_g 2 _) s_g t_g 3 _⟩


abbrev marksT : ByteArray := ⟨#[123, 125, 91, 93, 58, 44]⟩
theorem index_mark (c : Int) (h0 : 0 ≤ c) (h1 : c < 256) : Lib.indexByte marksT.data.toList c.toNat.toUInt8 = markT c - 1 := by
  have key : ∀ n : Fin 256, Lib.indexByte marksT.data.toList (n.val : Int).toNat.toUInt8 = markT (n.val : Int) - 1 := by decide +kernel
  have := key ⟨c.toNat, by omega⟩
  simp only at this
  rw [Int.toNat_of_nonneg h0] at this
  exact this
theorem bt_range (s : ByteArray) (i : Int) : 0 ≤ bt s i ∧ bt s i < 256 := by
  unfold bt
  split
  · have := UInt8.toNat_lt (s[i.toNat])
    omega
  · omega

set_option maxHeartbeats 4000000 in
set_option maxRecDepth 100000 in
theorem mark_calls {b : Nat} {s : ByteArray} {pl : Int} (i : Nat) (hi : i < s.size) (hs : s.size ≤ 1073741824) (c : Int) (hc : bt s (i : Int) = c) (w : World) (h : CutAt w b s i pl) (hm : markT c ≠ 0) :
    Calls Tryd.prog 30 #[.pointer (some ⟨b, 0, none⟩)] w (CutEnd b s i pl ⟨0, 0, markT c, i + 1, ⟨#[]⟩⟩ w) := by
  have hr := bt_range s (i : Int)
  rw [hc] at hr
  have hix := index_mark c hr.1 hr.2
  have hx : ((s[i]'hi).toNat : Int) = c := by rw [← hc]; exact bt_at s (i : Int) hi
  have hm0 : 0 ≤ markT c ∧ markT c ≤ 6 := by
    unfold markT
    repeat' split
    all_goals omega
  have hw1 : IntKind.i64.wrap (markT c - 1 + 1) = markT c := by rw [show markT c - 1 + 1 = markT c by omega]; exact IntWalk.i64_in _ (by omega)
  have hw2 : IntKind.i64.wrap ((i : Int) + 1) = (i : Int) + 1 := IntWalk.i64_in _ (by omega)
  have hi0 : (0 : Int) ≤ (i : Int) := by omega
  have hi1 : (i : Int) < (s.size : Int) := by omega
  have hI := fun W => Tryd.strings_IndexByte marksT c W
  rw [hix] at hI
  have H := Lib.hid h
  clear h hix hr hc
  go_enter Tryd.func30, Tryd.ntmps30
  go_wp2_with ((with_reducible refine gate_dst (N := 2) rfl ?_); refine box_event rfl (N := 2) rfl (cs := #[.int .i64 0, .int .i64 0, .int .i64 0, .string (⟨#[]⟩ : ByteArray)]) (t := 31) ?hr ?_; (case hr => first | (go_simp; done) | (go_simp; rfl)); intro g hg w1 hbox hb1; go_must (have g_0 : w1.cell? ⟨g, 0, none⟩ = some (.int .i64 0) := (blk_cell hbox 0).trans rfl; have g_1 : w1.cell? ⟨g, 1, none⟩ = some (.int .i64 0) := (blk_cell hbox 1).trans rfl; have g_2 : w1.cell? ⟨g, 2, none⟩ = some (.int .i64 0) := (blk_cell hbox 2).trans rfl; have g_3 : w1.cell? ⟨g, 3, none⟩ = some (.string ⟨#[]⟩) := (blk_cell hbox 3).trans rfl; have g_f0 := blk_frozen hbox 0; have g_f1 := blk_frozen hbox 1; have g_f2 := blk_frozen hbox 2; have g_f3 := blk_frozen hbox 3; have HB_g := Lib.hid hbox; have H_w1 := Lib.hid (CutAt.below H.out hb1); have M_w1 := Lib.hid (Moved.trans (Moved.refl (b := b) (w := w)) (Moved.of_below (CutAt.lt H.out) hb1)); have n1_g : ¬ b = g := (by have := CutAt.lt H.out; omega); have n2_g : ¬ g = b := (fun e => n1_g e.symm); have s_g : w.heap.size ≤ g := (by have := M_w1.out.below.size; have := ((Moved.refl (b := b) (w := w))).below.size; simp at *; omega); have t_g : b ≤ g := (by have := CutAt.lt H.out; simp at *; omega); have k0_w1 := H_w1.out.c0; have k1_w1 := H_w1.out.c1; have k2_w1 := H_w1.out.c2; have kf_w1 := H_w1.out.fr 2; have lt_g : g < w1.heap.size := blk_lt hbox; clear hg hbox hb1))
  clear hm
  refine wp_region_still_tail 21 (by kernel_rfl) (by kernel_rfl) ?_
  simp only [List.take_succ_cons, List.take_zero, List.drop_succ_cons, List.drop_zero]
  repeat still_step
  still_call (hI _)
  repeat still_step
  refine wpStill_nil ?_
  change wpList _ _ _ _ _ w1.drew
  go_wp2
  have hch := blk_put (cs' := #[.int .i64 (markT c), .int .i64 i, .int .i64 ((i : Int) + 1), .string (⟨#[]⟩ : ByteArray)]) (blk_put (cs' := #[.int .i64 (markT c), .int .i64 i, .int .i64 ((i : Int) + 1), .string (⟨#[]⟩ : ByteArray)]) (blk_put (cs' := #[.int .i64 (markT c), .int .i64 i, .int .i64 0, .string (⟨#[]⟩ : ByteArray)]) (blk_put (cs' := #[.int .i64 (markT c), .int .i64 0, .int .i64 0, .string (⟨#[]⟩ : ByteArray)]) (blk_drew HB_g.out) 0 (.int .i64 (markT c)) rfl) 1 (.int .i64 i) rfl) 2 (.int .i64 ((i : Int) + 1)) rfl) 3 (.string (⟨#[]⟩ : ByteArray)) rfl
  refine bodyPost_ret (results_ct rfl _ _ g 31 #[.int .i64 (markT c), .int .i64 i, .int .i64 ((i : Int) + 1), .string (⟨#[]⟩ : ByteArray)] (0, 0) _ rfl hch Tryd.underlying31 rfl (by kernel_rfl)) rfl ?_
  have hcast : ((i + 1 : Nat) : Int) = (i : Int) + 1 := by omega
  refine ⟨Or.inl ⟨rfl, ?_, CutAt.far (CutAt.far (CutAt.far (CutAt.far (CutAt.drew H_w1.out) n1_g 0 _) n1_g 1 _) n1_g 2 _) n1_g 3 _⟩, Moved.new (Moved.new (Moved.new (Moved.new (Moved.drew M_w1.out) s_g t_g 0 _) s_g t_g 1 _) s_g t_g 2 _) s_g t_g 3 _⟩
  show Ending.returned (.tuple #[.agg #[.int .i64 (markT c), .int .i64 i, .int .i64 ((i : Int) + 1), .string ⟨#[]⟩], .int .i64 0]) = Ending.returned (.tuple #[.agg #[.int .i64 (markT c), .int .i64 i, .int .i64 ((i + 1 : Nat) : Int), .string ⟨#[]⟩], .int .i64 0])
  rw [hcast]


set_option maxHeartbeats 4000000 in
set_option maxRecDepth 100000 in
theorem literal_calls {b : Nat} {s : ByteArray} {pl : Int} (i : Nat) (hi : i < s.size) (hs : s.size ≤ 1073741824) (q : ByteArray × Int × Int) (hq : unqAt s (i : Int) = q) (w : World) (h : CutAt w b s i pl) (hT : Tabs w) :
    Calls Tryd.prog 33 #[.pointer (some ⟨b, 0, none⟩)] w (CutEnd b s i pl (if q.2.2 = 0 then ⟨0, 0, 11, q.2.1.toNat, q.1⟩ else ⟨q.2.2, q.2.1, 0, i, ⟨#[]⟩⟩) w) := by
  have hrng : q.2.2 = 0 → 0 ≤ q.2.1 := by
    intro he
    by_cases h34 : bt s (i : Int) = 34
    · rw [unqAt_at s i hi h34] at hq
      rw [← hq] at he ⊢
      have := unq_range s s.size (i + 1) [] (by omega) he
      omega
    · rw [← hq] at he
      unfold unqAt at he
      rw [if_neg (by omega), if_pos h34] at he
      simp at he
  obtain ⟨t, pz, er⟩ := q
  simp only at hrng ⊢
  have hU := fun W (hW : Tabs W) => utf_Unquote.calls s (i : Int) t pz er W hW (by unfold utf_Unquote.f; rw [if_pos (by omega), hq])
  have H := Lib.hid h
  have HT := Lib.hid hT
  have HR := Lib.hid hrng
  obtain ⟨R, hR⟩ : ∃ R, (if er = 0 then (⟨0, 0, 11, pz.toNat, t⟩ : TokR) else ⟨er, pz, 0, i, ⟨#[]⟩⟩) = R := ⟨_, rfl⟩
  rw [hR]
  have HRR := Lib.hid hR
  clear h hT hq hrng hR
  by_cases he : er = 0
  · have he' : (er != 0) = false := bne_eq_false_iff_eq.2 he
    have HE := Lib.hid he
    clear he
    go_enter Tryd.func33, Tryd.ntmps33
    go_wp2_with ((with_reducible refine gate_dst (N := 2) rfl ?_); refine box_event rfl (N := 2) rfl (cs := #[.int .i64 0, .int .i64 0, .int .i64 0, .string (⟨#[]⟩ : ByteArray)]) (t := 31) ?hr ?_; (case hr => first | (go_simp; done) | (go_simp; rfl)); intro g hg w1 hbox hb1; go_must (have g_0 : w1.cell? ⟨g, 0, none⟩ = some (.int .i64 0) := (blk_cell hbox 0).trans rfl; have g_1 : w1.cell? ⟨g, 1, none⟩ = some (.int .i64 0) := (blk_cell hbox 1).trans rfl; have g_2 : w1.cell? ⟨g, 2, none⟩ = some (.int .i64 0) := (blk_cell hbox 2).trans rfl; have g_3 : w1.cell? ⟨g, 3, none⟩ = some (.string ⟨#[]⟩) := (blk_cell hbox 3).trans rfl; have g_f0 := blk_frozen hbox 0; have g_f1 := blk_frozen hbox 1; have g_f2 := blk_frozen hbox 2; have g_f3 := blk_frozen hbox 3; have HB_g := Lib.hid hbox; have H_w1 := Lib.hid (CutAt.below H.out hb1); have M_w1 := Lib.hid (Moved.trans (Moved.refl (b := b) (w := w)) (Moved.of_below (CutAt.lt H.out) hb1)); have n1_g : ¬ b = g := (by have := CutAt.lt H.out; omega); have n2_g : ¬ g = b := (fun e => n1_g e.symm); have s_g : w.heap.size ≤ g := (by have := M_w1.out.below.size; have := ((Moved.refl (b := b) (w := w))).below.size; simp at *; omega); have t_g : b ≤ g := (by have := CutAt.lt H.out; simp at *; omega); have k0_w1 := H_w1.out.c0; have k1_w1 := H_w1.out.c1; have k2_w1 := H_w1.out.c2; have kf_w1 := H_w1.out.fr 2; have lt_g : g < w1.heap.size := blk_lt hbox; have B_w1 := Lib.hid hb1; clear hg hbox hb1))
    go_region_with ((refine (hU _ (by exact Tabs.of_heap (HT.out.below B_w1.out) rfl)).mono ?_; rintro e0 w2 ⟨rfl, hb2⟩; have HB2 := Lib.hid hb2; clear hb2))
    all_goals
      have hbx2 := blk_below (blk_drew HB_g.out) HB2.out
      have H_x2 := Lib.hid (CutAt.below (CutAt.drew H_w1.out) HB2.out)
      have gx2_0 : w2.cell? ⟨g, 0, none⟩ = some (.int .i64 0) := (blk_cell hbx2 0).trans rfl
      have gx2_1 : w2.cell? ⟨g, 1, none⟩ = some (.int .i64 0) := (blk_cell hbx2 1).trans rfl
      have gx2_2 : w2.cell? ⟨g, 2, none⟩ = some (.int .i64 0) := (blk_cell hbx2 2).trans rfl
      have gx2_3 : w2.cell? ⟨g, 3, none⟩ = some (.string ⟨#[]⟩) := (blk_cell hbx2 3).trans rfl
      have gx2f_0 := blk_frozen hbx2 0
      have gx2f_1 := blk_frozen hbx2 1
      have gx2f_2 := blk_frozen hbx2 2
      have gx2f_3 := blk_frozen hbx2 3
      have HBx2 := Lib.hid hbx2
      clear hbx2
      have k0x2 := H_x2.out.c0
      have k1x2 := H_x2.out.c1
      have k2x2 := H_x2.out.c2
      have kfx2 := H_x2.out.fr 2
      go_wp2
      have hch := blk_put (cs' := #[.int .i64 11, .int .i64 i, .int .i64 pz, .string t]) (blk_put (cs' := #[.int .i64 11, .int .i64 i, .int .i64 pz, .string (⟨#[]⟩ : ByteArray)]) (blk_put (cs' := #[.int .i64 11, .int .i64 i, .int .i64 0, .string (⟨#[]⟩ : ByteArray)]) (blk_put (cs' := #[.int .i64 11, .int .i64 0, .int .i64 0, .string (⟨#[]⟩ : ByteArray)]) (HBx2.out) 0 (.int .i64 11) rfl) 1 (.int .i64 i) rfl) 2 (.int .i64 pz) rfl) 3 (.string t) rfl
      refine bodyPost_ret (results_ct rfl _ _ g 31 #[.int .i64 11, .int .i64 i, .int .i64 pz, .string t] (0, 0) _ rfl hch Tryd.underlying31 rfl (by kernel_rfl)) rfl ?_
      have hpz : ((pz.toNat : Nat) : Int) = pz := Int.toNat_of_nonneg (HR.out HE.out)
      rw [← HRR.out, if_pos HE.out]
      refine ⟨Or.inl ⟨rfl, ?_, CutAt.far (CutAt.far (CutAt.far (CutAt.far (H_x2.out) n1_g 0 _) n1_g 1 _) n1_g 2 _) n1_g 3 _⟩, Moved.new (Moved.new (Moved.new (Moved.new (Moved.trans (Moved.drew M_w1.out) (Moved.of_below (CutAt.lt (CutAt.drew H_w1.out)) HB2.out)) s_g t_g 0 _) s_g t_g 1 _) s_g t_g 2 _) s_g t_g 3 _⟩
      show Ending.returned (.tuple #[.agg #[.int .i64 11, .int .i64 i, .int .i64 pz, .string t], .int .i64 0]) = Ending.returned (.tuple #[.agg #[.int .i64 11, .int .i64 i, .int .i64 ((pz.toNat : Nat) : Int), .string t], .int .i64 0])
      rw [hpz]
  · have he' : (er != 0) = true := bne_iff_ne.2 he
    have HE := Lib.hid he
    clear he
    go_enter Tryd.func33, Tryd.ntmps33
    go_wp2_with ((with_reducible refine gate_dst (N := 2) rfl ?_); refine box_event rfl (N := 2) rfl (cs := #[.int .i64 0, .int .i64 0, .int .i64 0, .string (⟨#[]⟩ : ByteArray)]) (t := 31) ?hr ?_; (case hr => first | (go_simp; done) | (go_simp; rfl)); intro g hg w1 hbox hb1; go_must (have g_0 : w1.cell? ⟨g, 0, none⟩ = some (.int .i64 0) := (blk_cell hbox 0).trans rfl; have g_1 : w1.cell? ⟨g, 1, none⟩ = some (.int .i64 0) := (blk_cell hbox 1).trans rfl; have g_2 : w1.cell? ⟨g, 2, none⟩ = some (.int .i64 0) := (blk_cell hbox 2).trans rfl; have g_3 : w1.cell? ⟨g, 3, none⟩ = some (.string ⟨#[]⟩) := (blk_cell hbox 3).trans rfl; have g_f0 := blk_frozen hbox 0; have g_f1 := blk_frozen hbox 1; have g_f2 := blk_frozen hbox 2; have g_f3 := blk_frozen hbox 3; have HB_g := Lib.hid hbox; have H_w1 := Lib.hid (CutAt.below H.out hb1); have M_w1 := Lib.hid (Moved.trans (Moved.refl (b := b) (w := w)) (Moved.of_below (CutAt.lt H.out) hb1)); have n1_g : ¬ b = g := (by have := CutAt.lt H.out; omega); have n2_g : ¬ g = b := (fun e => n1_g e.symm); have s_g : w.heap.size ≤ g := (by have := M_w1.out.below.size; have := ((Moved.refl (b := b) (w := w))).below.size; simp at *; omega); have t_g : b ≤ g := (by have := CutAt.lt H.out; simp at *; omega); have k0_w1 := H_w1.out.c0; have k1_w1 := H_w1.out.c1; have k2_w1 := H_w1.out.c2; have kf_w1 := H_w1.out.fr 2; have lt_g : g < w1.heap.size := blk_lt hbox; have B_w1 := Lib.hid hb1; clear hg hbox hb1))
    go_region_with ((refine (hU _ (by exact Tabs.of_heap (HT.out.below B_w1.out) rfl)).mono ?_; rintro e0 w2 ⟨rfl, hb2⟩; have HB2 := Lib.hid hb2; clear hb2))
    all_goals
      have hbx2 := blk_below (blk_drew HB_g.out) HB2.out
      have H_x2 := Lib.hid (CutAt.below (CutAt.drew H_w1.out) HB2.out)
      have gx2_0 : w2.cell? ⟨g, 0, none⟩ = some (.int .i64 0) := (blk_cell hbx2 0).trans rfl
      have gx2_1 : w2.cell? ⟨g, 1, none⟩ = some (.int .i64 0) := (blk_cell hbx2 1).trans rfl
      have gx2_2 : w2.cell? ⟨g, 2, none⟩ = some (.int .i64 0) := (blk_cell hbx2 2).trans rfl
      have gx2_3 : w2.cell? ⟨g, 3, none⟩ = some (.string ⟨#[]⟩) := (blk_cell hbx2 3).trans rfl
      have gx2f_0 := blk_frozen hbx2 0
      have gx2f_1 := blk_frozen hbx2 1
      have gx2f_2 := blk_frozen hbx2 2
      have gx2f_3 := blk_frozen hbx2 3
      have HBx2 := Lib.hid hbx2
      clear hbx2
      have k0x2 := H_x2.out.c0
      have k1x2 := H_x2.out.c1
      have k2x2 := H_x2.out.c2
      have kfx2 := H_x2.out.fr 2
      go_wp2
      have hch := blk_put (cs' := #[.int .i64 0, .int .i64 0, .int .i64 0, .string (⟨#[]⟩ : ByteArray)]) (blk_put (cs' := #[.int .i64 0, .int .i64 0, .int .i64 0, .string (⟨#[]⟩ : ByteArray)]) (blk_put (cs' := #[.int .i64 0, .int .i64 0, .int .i64 0, .string (⟨#[]⟩ : ByteArray)]) (blk_put (cs' := #[.int .i64 0, .int .i64 0, .int .i64 0, .string (⟨#[]⟩ : ByteArray)]) (blk_far HBx2.out (p := ⟨b, 2, none⟩) n2_g (.int .i64 pz)) 0 (.int .i64 0) rfl) 1 (.int .i64 0) rfl) 2 (.int .i64 0) rfl) 3 (.string (⟨#[]⟩ : ByteArray)) rfl
      refine bodyPost_ret (results_ct rfl _ _ g 31 #[.int .i64 0, .int .i64 0, .int .i64 0, .string (⟨#[]⟩ : ByteArray)] (0, 0) _ rfl hch Tryd.underlying31 rfl (by kernel_rfl)) rfl ?_
      rw [← HRR.out, if_neg HE.out]
      exact ⟨Or.inr ⟨HE.out, rfl, CutAt.far (CutAt.far (CutAt.far (CutAt.far (H_x2.out.place pz) n1_g 0 _) n1_g 1 _) n1_g 2 _) n1_g 3 _⟩, Moved.new (Moved.new (Moved.new (Moved.new (Moved.own (Moved.trans (Moved.drew M_w1.out) (Moved.of_below (CutAt.lt (CutAt.drew H_w1.out)) HB2.out)) 2 (.int .i64 pz)) s_g t_g 0 _) s_g t_g 1 _) s_g t_g 2 _) s_g t_g 3 _⟩


end Go.Proofs.YtkfcoikfhpabmaaDoor.U

namespace Go.Proofs.YtkfcoikfhpabmaaDoor.U
open Go.RowKit Go.Proofs.YtkfcoikfhpabmaaDoorW.PrintWords
set_option linter.unusedSimpArgs false
set_option linter.unusedVariables false

theorem letterT_eq (c : Int) : letterT c = decide ((97 ≤ c ∧ c ≤ 122) ∨ (65 ≤ c ∧ c ≤ 90) ∨ c = 95) := by
  unfold letterT token_isLetter.f
  rw [Bool.eq_iff_iff, decide_eq_true_eq]
  repeat' split
  all_goals simp
  all_goals omega
theorem digitT_eq (c : Int) : digitT c = decide (48 ≤ c ∧ c ≤ 57) := by
  unfold digitT token_isDigit.f
  rw [Bool.eq_iff_iff, decide_eq_true_eq]
  repeat' split
  all_goals simp
  all_goals omega

set_option maxHeartbeats 1000000 in
theorem isLetter_exact (c : Int) (w : World) : Calls Tryd.prog 35 #[.int .u8 c] w fun e w' => e = .returned (.bool (letterT c)) ∧ w' = w := by
  obtain ⟨B, hB⟩ : ∃ B, letterT c = B := ⟨_, rfl⟩
  rw [hB]
  have HB := Lib.hid hB
  clear hB
  by_cases a1 : 97 ≤ c
  · by_cases a2 : c ≤ 122
    · go_enter Tryd.func35, Tryd.ntmps35
      go_wp2
      go_ret
      exact ⟨congrArg (fun b => Ending.returned (.bool b)) (by rw [← HB.out, letterT_eq]; simp; omega), rfl⟩
    · have a3 : 65 ≤ c := by omega
      have a4 : ¬ c ≤ 90 := by omega
      have a5 : (c == 95) = false := beq_eq_false_iff_ne.2 (by omega)
      go_enter Tryd.func35, Tryd.ntmps35
      go_wp2
      go_ret
      exact ⟨congrArg (fun b => Ending.returned (.bool b)) (by rw [← HB.out, letterT_eq]; simp; omega), rfl⟩
  · by_cases a3 : 65 ≤ c
    · by_cases a4 : c ≤ 90
      · go_enter Tryd.func35, Tryd.ntmps35
        go_wp2
        go_ret
        exact ⟨congrArg (fun b => Ending.returned (.bool b)) (by rw [← HB.out, letterT_eq]; simp; omega), rfl⟩
      · obtain ⟨x, hx⟩ : ∃ x, (c == 95) = x := ⟨_, rfl⟩
        have HX := Lib.hid hx
        go_enter Tryd.func35, Tryd.ntmps35
        go_wp2
        go_ret
        refine ⟨congrArg (fun b => Ending.returned (.bool b)) ?_, rfl⟩
        rw [← HB.out, letterT_eq, ← HX.out, Bool.eq_iff_iff, decide_eq_true_eq, beq_iff_eq]
        omega
    · have a5 : (c == 95) = false := beq_eq_false_iff_ne.2 (by omega)
      go_enter Tryd.func35, Tryd.ntmps35
      go_wp2
      go_ret
      exact ⟨congrArg (fun b => Ending.returned (.bool b)) (by rw [← HB.out, letterT_eq]; simp; omega), rfl⟩
set_option maxHeartbeats 1000000 in
theorem isDigit_exact (c : Int) (w : World) : Calls Tryd.prog 36 #[.int .u8 c] w fun e w' => e = .returned (.bool (digitT c)) ∧ w' = w := by
  obtain ⟨B, hB⟩ : ∃ B, digitT c = B := ⟨_, rfl⟩
  rw [hB]
  have HB := Lib.hid hB
  clear hB
  by_cases a1 : 48 ≤ c
  · by_cases a2 : c ≤ 57
    · go_enter Tryd.func36, Tryd.ntmps36
      go_wp2
      go_ret
      exact ⟨congrArg (fun b => Ending.returned (.bool b)) (by rw [← HB.out, digitT_eq]; simp; omega), rfl⟩
    · go_enter Tryd.func36, Tryd.ntmps36
      go_wp2
      go_ret
      exact ⟨congrArg (fun b => Ending.returned (.bool b)) (by rw [← HB.out, digitT_eq]; simp; omega), rfl⟩
  · go_enter Tryd.func36, Tryd.ntmps36
    go_wp2
    go_ret
    exact ⟨congrArg (fun b => Ending.returned (.bool b)) (by rw [← HB.out, digitT_eq]; simp; omega), rfl⟩

/-- what a byte begins -/
def begT (c : Int) : Int := if markT c ≠ 0 then 1 else if letterT c = true then 2 else if digitT c = true ∨ c = 45 then 3 else if c = 34 then 4 else 0
set_option maxHeartbeats 2000000 in
theorem beginning_exact (c : Int) (h0 : 0 ≤ c) (h1 : c < 256) (w : World) : Calls Tryd.prog 20 #[.int .u8 c] w fun e w' => e = .returned (.int .i64 (begT c)) ∧ w' = w := by
  have hix := index_mark c h0 h1
  have hI := fun W => Tryd.strings_IndexByte marksT c W
  rw [hix] at hI
  have hL := fun W => isLetter_exact c W
  have hD := fun W => isDigit_exact c W
  have hm0 : 0 ≤ markT c := by
    unfold markT
    repeat' split
    all_goals omega
  clear hix
  unfold begT
  obtain ⟨m, hm⟩ : ∃ m, markT c = m := ⟨_, rfl⟩
  obtain ⟨l, hl⟩ : ∃ l, letterT c = l := ⟨_, rfl⟩
  obtain ⟨d, hd⟩ : ∃ d, digitT c = d := ⟨_, rfl⟩
  rw [hm] at hm0 hI ⊢
  rw [hl] at hL ⊢
  rw [hd] at hD ⊢
  clear hm hl hd
  by_cases a1 : m = 0
  · have a1' : ¬ (0 : Int) ≤ m - 1 := by omega
    rw [if_neg (by simp [a1])]
    have A1 := Lib.hid a1
    clear a1
    cases l with
    | true =>
      rw [if_pos rfl]
      go_enter Tryd.func20, Tryd.ntmps20
      go_wp2_with (first | (go_at_call 34; (with_reducible refine (hI _).mono ?_); rintro e0 w2 ⟨rfl, hw2⟩; obtain rfl := hw2.symm) | (go_at_call 35; (with_reducible refine (hL _).mono ?_); rintro e0 w2 ⟨rfl, hw2⟩; obtain rfl := hw2.symm))
      go_ret
      exact ⟨rfl, rfl⟩
    | false =>
      rw [if_neg (by decide)]
      cases d with
      | true =>
        rw [if_pos (Or.inl rfl)]
        go_enter Tryd.func20, Tryd.ntmps20
        go_wp2_with (first | (go_at_call 34; (with_reducible refine (hI _).mono ?_); rintro e0 w2 ⟨rfl, hw2⟩; obtain rfl := hw2.symm) | (go_at_call 35; (with_reducible refine (hL _).mono ?_); rintro e0 w2 ⟨rfl, hw2⟩; obtain rfl := hw2.symm) | (go_at_call 36; (with_reducible refine (hD _).mono ?_); rintro e0 w2 ⟨rfl, hw2⟩; obtain rfl := hw2.symm))
        go_ret
        exact ⟨rfl, rfl⟩
      | false =>
        by_cases a2 : c = 45
        · rw [if_pos (Or.inr a2)]
          have a2' : (c == 45) = true := beq_iff_eq.2 a2
          clear a2
          go_enter Tryd.func20, Tryd.ntmps20
          go_wp2_with (first | (go_at_call 34; (with_reducible refine (hI _).mono ?_); rintro e0 w2 ⟨rfl, hw2⟩; obtain rfl := hw2.symm) | (go_at_call 35; (with_reducible refine (hL _).mono ?_); rintro e0 w2 ⟨rfl, hw2⟩; obtain rfl := hw2.symm) | (go_at_call 36; (with_reducible refine (hD _).mono ?_); rintro e0 w2 ⟨rfl, hw2⟩; obtain rfl := hw2.symm))
          go_ret
          exact ⟨rfl, rfl⟩
        · rw [if_neg (by simp [a2])]
          have a2' : (c == 45) = false := beq_eq_false_iff_ne.2 a2
          clear a2
          by_cases a3 : c = 34
          · rw [if_pos a3]
            have a3' : (c == 34) = true := beq_iff_eq.2 a3
            clear a3
            go_enter Tryd.func20, Tryd.ntmps20
            go_wp2_with (first | (go_at_call 34; (with_reducible refine (hI _).mono ?_); rintro e0 w2 ⟨rfl, hw2⟩; obtain rfl := hw2.symm) | (go_at_call 35; (with_reducible refine (hL _).mono ?_); rintro e0 w2 ⟨rfl, hw2⟩; obtain rfl := hw2.symm) | (go_at_call 36; (with_reducible refine (hD _).mono ?_); rintro e0 w2 ⟨rfl, hw2⟩; obtain rfl := hw2.symm))
            go_ret
            exact ⟨rfl, rfl⟩
          · rw [if_neg a3]
            have a3' : (c == 34) = false := beq_eq_false_iff_ne.2 a3
            clear a3
            go_enter Tryd.func20, Tryd.ntmps20
            go_wp2_with (first | (go_at_call 34; (with_reducible refine (hI _).mono ?_); rintro e0 w2 ⟨rfl, hw2⟩; obtain rfl := hw2.symm) | (go_at_call 35; (with_reducible refine (hL _).mono ?_); rintro e0 w2 ⟨rfl, hw2⟩; obtain rfl := hw2.symm) | (go_at_call 36; (with_reducible refine (hD _).mono ?_); rintro e0 w2 ⟨rfl, hw2⟩; obtain rfl := hw2.symm))
            go_ret
            exact ⟨rfl, rfl⟩
  · have a1' : (0 : Int) ≤ m - 1 := by omega
    rw [if_pos a1]
    clear a1
    go_enter Tryd.func20, Tryd.ntmps20
    go_wp2_with (first | (go_at_call 34; (with_reducible refine (hI _).mono ?_); rintro e0 w2 ⟨rfl, hw2⟩; obtain rfl := hw2.symm))
    go_ret
    exact ⟨rfl, rfl⟩

/-- does a byte belong to a run? -/
def runB (further : ByteArray) (c : Int) : Bool := letterT c || digitT c || decide (0 ≤ Lib.indexByte further.data.toList c.toNat.toUInt8)

set_option maxHeartbeats 4000000 in
set_option maxRecDepth 100000 in
theorem run_exact {b : Nat} {s : ByteArray} {i : Nat} {pl : Int} (further : ByteArray) (hi : i ≤ s.size) (hs : s.size ≤ 1073741824) (w : World) (h : CutAt w b s i pl) :
    Calls Tryd.prog 40 #[.pointer (some ⟨b, 0, none⟩), .string further] w fun e w' => e = .returned (.int .i64 (runEnd (runB further) s (s.size - i) i)) ∧ w' = w := by
  obtain ⟨R, hR⟩ : ∃ R, runEnd (runB further) s (s.size - i) i = R := ⟨_, rfl⟩
  rw [hR]
  have HR := Lib.hid hR
  have c0 := h.c0
  have c1 := h.c1
  clear h hR
  go_enter Tryd.func40, Tryd.ntmps40
  go_wp2
  clear c1
  go_loop [5] (fun v => ∃ k : Nat, v = .int .i64 k ∧ k ≤ s.size ∧ Hid (runEnd (runB further) s (s.size - k) k = R)) (fun v => s.size - (intOf v).toNat)
  case atStart => exact ⟨i, rfl, hi, HR⟩
  case round =>
    clear HR
    obtain ⟨k, rfl, hk, HU⟩ := hrel
    by_cases hlt : k < s.size
    · have hkl : (k : Int) < (s.size : Int) := by omega
      have hk0 : (0 : Int) ≤ (k : Int) := by omega
      obtain ⟨c, hc⟩ : ∃ c, bt s (k : Int) = c := ⟨_, rfl⟩
      have hx : ((s[k]'hlt).toNat : Int) = c := by rw [← hc]; exact bt_at s (k : Int) hlt
      have hU := HU.out
      rw [show s.size - k = (s.size - (k + 1)) + 1 by omega, runEnd, if_pos hlt, hc] at hU
      have hI := fun W => Tryd.strings_IndexByte further c W
      have hL := fun W => isLetter_exact c W
      have hD := fun W => isDigit_exact c W
      unfold runB at hU
      obtain ⟨x, hxx⟩ : ∃ x, Lib.indexByte further.data.toList c.toNat.toUInt8 = x := ⟨_, rfl⟩
      obtain ⟨l, hl⟩ : ∃ l, letterT c = l := ⟨_, rfl⟩
      obtain ⟨d, hd⟩ : ∃ d, digitT c = d := ⟨_, rfl⟩
      rw [hxx] at hI
      rw [hl] at hL
      rw [hd] at hD
      rw [hl, hd, hxx] at hU
      clear hxx hl hd hc HU
      cases l with
      | true =>
        have HN : Hid (runEnd (runB further) s (s.size - (k + 1)) (k + 1) = R) := by
          refine Eq.trans ?_ hU
          rw [if_pos (by rfl)]
          rfl
        clear hU
        go_wp2_with (first | (go_at_call 34; (with_reducible refine (hI _).mono ?_); rintro e0 w2 ⟨rfl, hw2⟩; obtain rfl := hw2.symm) | (go_at_call 35; (with_reducible refine (hL _).mono ?_); rintro e0 w2 ⟨rfl, hw2⟩; obtain rfl := hw2.symm) | (go_at_call 36; (with_reducible refine (hD _).mono ?_); rintro e0 w2 ⟨rfl, hw2⟩; obtain rfl := hw2.symm))
        go_round
        case rel => exact ⟨k + 1, by go_num, by omega, HN⟩
        case measure => simp [intOf]; omega
      | false =>
        cases d with
        | true =>
          have HN : Hid (runEnd (runB further) s (s.size - (k + 1)) (k + 1) = R) := by
            refine Eq.trans ?_ hU
            rw [if_pos (by rfl)]
            rfl
          clear hU
          go_wp2_with (first | (go_at_call 34; (with_reducible refine (hI _).mono ?_); rintro e0 w2 ⟨rfl, hw2⟩; obtain rfl := hw2.symm) | (go_at_call 35; (with_reducible refine (hL _).mono ?_); rintro e0 w2 ⟨rfl, hw2⟩; obtain rfl := hw2.symm) | (go_at_call 36; (with_reducible refine (hD _).mono ?_); rintro e0 w2 ⟨rfl, hw2⟩; obtain rfl := hw2.symm))
          go_round
          case rel => exact ⟨k + 1, by go_num, by omega, HN⟩
          case measure => simp [intOf]; omega
        | false =>
          by_cases a : 0 ≤ x
          · have HN : Hid (runEnd (runB further) s (s.size - (k + 1)) (k + 1) = R) := by
              refine Eq.trans ?_ hU
              rw [if_pos (by simp [a])]
              rfl
            clear hU
            go_wp2_with (first | (go_at_call 34; (with_reducible refine (hI _).mono ?_); rintro e0 w2 ⟨rfl, hw2⟩; obtain rfl := hw2.symm) | (go_at_call 35; (with_reducible refine (hL _).mono ?_); rintro e0 w2 ⟨rfl, hw2⟩; obtain rfl := hw2.symm) | (go_at_call 36; (with_reducible refine (hD _).mono ?_); rintro e0 w2 ⟨rfl, hw2⟩; obtain rfl := hw2.symm))
            go_round
            case rel => exact ⟨k + 1, by go_num, by omega, HN⟩
            case measure => simp [intOf]; omega
          · have HN : Hid (k = R) := by
              refine Eq.trans ?_ hU
              rw [if_neg (by simp [a])]
            clear hU
            go_wp2_with (first | (go_at_call 34; (with_reducible refine (hI _).mono ?_); rintro e0 w2 ⟨rfl, hw2⟩; obtain rfl := hw2.symm) | (go_at_call 35; (with_reducible refine (hL _).mono ?_); rintro e0 w2 ⟨rfl, hw2⟩; obtain rfl := hw2.symm) | (go_at_call 36; (with_reducible refine (hD _).mono ?_); rintro e0 w2 ⟨rfl, hw2⟩; obtain rfl := hw2.symm))
            go_ret
            exact ⟨congrArg (fun z : Nat => Ending.returned (.int .i64 (z : Int))) HN.out, rfl⟩
    · have HN : Hid (k = R) := by
        refine Eq.trans ?_ HU.out
        rw [show s.size - k = 0 by omega]
        rfl
      have hkl : ¬ (k : Int) < (s.size : Int) := by omega
      clear HU
      go_wp2
      go_ret
      exact ⟨congrArg (fun z : Nat => Ending.returned (.int .i64 (z : Int))) HN.out, rfl⟩

end Go.Proofs.YtkfcoikfhpabmaaDoor.U

namespace Go.Proofs.YtkfcoikfhpabmaaDoor.U
open Go.RowKit Go.Proofs.YtkfcoikfhpabmaaDoorW.PrintWords
set_option linter.unusedSimpArgs false
set_option linter.unusedVariables false

theorem runEnd_congr (p q : Int → Bool) (s : ByteArray) (h : ∀ k, k < s.size → p (bt s (k : Int)) = q (bt s (k : Int))) : ∀ f i, runEnd p s f i = runEnd q s f i
  | 0, i => rfl
  | f + 1, i => by
    rw [runEnd, runEnd]
    by_cases c : i < s.size
    · rw [if_pos c, if_pos c, h i c, runEnd_congr p q s h f (i + 1)]
    · rw [if_neg c, if_neg c]
theorem run_word (s : ByteArray) (f i : Nat) : runEnd (runB ⟨#[]⟩) s f i = runEnd wordT s f i := by
  refine runEnd_congr _ _ s (fun k _ => ?_) f i
  unfold runB wordT
  have : Lib.indexByte (⟨#[]⟩ : ByteArray).data.toList (bt s (k : Int)).toNat.toUInt8 = -1 := rfl
  rw [this]
  simp
theorem run_num (s : ByteArray) (f i : Nat) : runEnd (runB ⟨#[43, 45, 46]⟩) s f i = runEnd numT s f i := by
  refine runEnd_congr _ _ s (fun k _ => ?_) f i
  have hr := bt_range s (k : Int)
  unfold runB numT
  congr 1
  have key : ∀ n : Fin 256, decide (0 ≤ Lib.indexByte (⟨#[43, 45, 46]⟩ : ByteArray).data.toList ((n.val : Int)).toNat.toUInt8) = (((n.val : Int)) == 43 || ((n.val : Int)) == 45 || ((n.val : Int)) == 46) := by decide +kernel
  have := key ⟨(bt s (k : Int)).toNat, by omega⟩
  simp only at this
  rw [Int.toNat_of_nonneg hr.1] at this
  exact this
theorem text_eq (x : ByteArray) (l : List UInt8) : (x.toList == l) = decide (x.data.toList = l) := by
  rw [ByteArray.toList_eq]
  exact (Bool.eq_iff_iff.2 (by simp))

set_option maxHeartbeats 8000000 in
set_option maxRecDepth 100000 in
theorem word_calls {b : Nat} {s : ByteArray} {pl : Int} (i : Nat) (hi : i < s.size) (hs : s.size ≤ 1073741824) (e : Nat) (he : runEnd wordT s (s.size - i) i = e) (w : World) (h : CutAt w b s i pl) :
    Calls Tryd.prog 31 #[.pointer (some ⟨b, 0, none⟩)] w (CutEnd b s i pl (if wordK (s.extract i e) = 0 then ⟨41, i, 0, i, ⟨#[]⟩⟩ else ⟨0, 0, wordK (s.extract i e), e, ⟨#[]⟩⟩) w) := by
  have hbd := runEnd_bounds wordT s (s.size - i) i (by omega)
  rw [he] at hbd
  have HE := Lib.hid he
  have H := Lib.hid h
  clear h he
  have hi0 : (0 : Int) ≤ (i : Int) := by omega
  have hi1 : (i : Int) ≤ (e : Int) := by omega
  have hi2 : (e : Int) ≤ (s.size : Int) := by omega
  obtain ⟨R, hR⟩ : ∃ R, (if wordK (s.extract i e) = 0 then (⟨41, i, 0, i, ⟨#[]⟩⟩ : TokR) else ⟨0, 0, wordK (s.extract i e), e, ⟨#[]⟩⟩) = R := ⟨_, rfl⟩
  rw [hR]
  obtain ⟨X, hX⟩ : ∃ X, s.extract i e = X := ⟨_, rfl⟩
  rw [hX] at hR
  unfold wordK at hR
  have HX := Lib.hid hX
  clear hX
  by_cases a : X.data.toList = [110, 117, 108, 108]
  · have t1 : (X.toList == ([110, 117, 108, 108] : List UInt8)) = true := by rw [text_eq]; exact decide_eq_true a
    rw [if_neg (by rw [if_pos a]; decide), if_pos a] at hR
    clear a
    have HRR := Lib.hid hR
    clear hR
    go_enter Tryd.func31, Tryd.ntmps31
    go_wp2_with ((with_reducible refine gate_dst (N := 2) rfl ?_); refine box_event rfl (N := 2) rfl (cs := #[.int .i64 0, .int .i64 0, .int .i64 0, .string (⟨#[]⟩ : ByteArray)]) (t := 31) ?hr ?_; (case hr => first | (go_simp; done) | (go_simp; rfl)); intro g hg w1 hbox hb1; go_must (have g_0 : w1.cell? ⟨g, 0, none⟩ = some (.int .i64 0) := (blk_cell hbox 0).trans rfl; have g_1 : w1.cell? ⟨g, 1, none⟩ = some (.int .i64 0) := (blk_cell hbox 1).trans rfl; have g_2 : w1.cell? ⟨g, 2, none⟩ = some (.int .i64 0) := (blk_cell hbox 2).trans rfl; have g_3 : w1.cell? ⟨g, 3, none⟩ = some (.string ⟨#[]⟩) := (blk_cell hbox 3).trans rfl; have g_f0 := blk_frozen hbox 0; have g_f1 := blk_frozen hbox 1; have g_f2 := blk_frozen hbox 2; have g_f3 := blk_frozen hbox 3; have HB_g := Lib.hid hbox; have H_w1 := Lib.hid (CutAt.below H.out hb1); have M_w1 := Lib.hid (Moved.trans (Moved.refl (b := b) (w := w)) (Moved.of_below (CutAt.lt H.out) hb1)); have n1_g : ¬ b = g := (by have := CutAt.lt H.out; omega); have n2_g : ¬ g = b := (fun e => n1_g e.symm); have s_g : w.heap.size ≤ g := (by have := M_w1.out.below.size; have := ((Moved.refl (b := b) (w := w))).below.size; simp at *; omega); have t_g : b ≤ g := (by have := CutAt.lt H.out; simp at *; omega); have k0_w1 := H_w1.out.c0; have k1_w1 := H_w1.out.c1; have k2_w1 := H_w1.out.c2; have kf_w1 := H_w1.out.fr 2; have lt_g : g < w1.heap.size := blk_lt hbox; clear hg hbox hb1))
    have hRun := fun W hW => run_exact (b := b) (pl := pl) (⟨#[]⟩) (Nat.le_of_lt hi) hs W hW
    rw [run_word, HE.out] at hRun
    have lb_w1 := CutAt.lt H_w1.out
    go_region_with ((refine (hRun _ (by first | exact CutAt.drew H_w1.out | exact CutAt.alloc (CutAt.drew H_w1.out) _)).mono ?_; rintro e0 w9 ⟨rfl, hw9⟩; obtain rfl := hw9.symm))
    all_goals
      have hBk := blk_drew (blk_new w1 (.cells #[.int .i64 0, .int .i64 i, .int .i64 e, .string (⟨#[]⟩ : ByteArray)] 31))
      have hBg := blk_drew (blk_alloc HB_g.out (.cells #[.int .i64 0, .int .i64 i, .int .i64 e, .string (⟨#[]⟩ : ByteArray)] 31))
      have hC := CutAt.drew (CutAt.alloc H_w1.out (.cells #[.int .i64 0, .int .i64 i, .int .i64 e, .string (⟨#[]⟩ : ByteArray)] 31))
      have t_k : b ≤ w1.heap.size := Nat.le_of_lt lb_w1
      have hM := Moved.drew (Moved.alloc M_w1.out t_k (.cells #[.int .i64 0, .int .i64 i, .int .i64 e, .string (⟨#[]⟩ : ByteArray)] 31))
      have n_gk : ¬ g = w1.heap.size := by omega
      have n1_k : ¬ b = w1.heap.size := by omega
      have s_k : w.heap.size ≤ w1.heap.size := M_w1.out.below.size
      generalize hw3 : World.drew (w1.alloc (.cells #[.int .i64 0, .int .i64 i, .int .i64 e, .string (⟨#[]⟩ : ByteArray)] 31)) = w3 at hBk hBg hC hM ⊢
      generalize hkk : w1.heap.size = k at hBk n_gk n1_k s_k t_k ⊢
      have n_kg : ¬ k = g := fun e => n_gk e.symm
      have n2_k : ¬ k = b := fun e => n1_k e.symm
      clear hw3 hkk hRun lb_w1 g_0 g_f0 g_1 g_f1 g_2 g_f2 g_3 g_f3 k0_w1 k1_w1 k2_w1 kf_w1 lt_g
      have k3_0 : w3.cell? ⟨k, 0, none⟩ = some (.int .i64 0) := (blk_cell hBk 0).trans rfl
      have k3f_0 := blk_frozen hBk 0
      have g3_0 : w3.cell? ⟨g, 0, none⟩ = some (.int .i64 0) := (blk_cell hBg 0).trans rfl
      have g3f_0 := blk_frozen hBg 0
      have k3_1 : w3.cell? ⟨k, 1, none⟩ = some (.int .i64 i) := (blk_cell hBk 1).trans rfl
      have k3f_1 := blk_frozen hBk 1
      have g3_1 : w3.cell? ⟨g, 1, none⟩ = some (.int .i64 0) := (blk_cell hBg 1).trans rfl
      have g3f_1 := blk_frozen hBg 1
      have k3_2 : w3.cell? ⟨k, 2, none⟩ = some (.int .i64 e) := (blk_cell hBk 2).trans rfl
      have k3f_2 := blk_frozen hBk 2
      have g3_2 : w3.cell? ⟨g, 2, none⟩ = some (.int .i64 0) := (blk_cell hBg 2).trans rfl
      have g3f_2 := blk_frozen hBg 2
      have k3_3 : w3.cell? ⟨k, 3, none⟩ = some (.string (⟨#[]⟩ : ByteArray)) := (blk_cell hBk 3).trans rfl
      have k3f_3 := blk_frozen hBk 3
      have g3_3 : w3.cell? ⟨g, 3, none⟩ = some (.string ⟨#[]⟩) := (blk_cell hBg 3).trans rfl
      have g3f_3 := blk_frozen hBg 3
      have c3_0 := hC.c0
      have c3_1 := hC.c1
      have c3_2 := hC.c2
      have c3f := hC.fr 2
      have BK := Lib.hid hBk
      have BG := Lib.hid hBg
      have HC := Lib.hid hC
      have HM := Lib.hid hM
      clear hBk hBg hC hM
      go_wp2_with fail
      go_quiet (fail)
      rw [HX.out]
      go_wp2
      have hch := blk_put (cs' := #[.int .i64 7, .int .i64 i, .int .i64 e, .string (⟨#[]⟩ : ByteArray)]) (blk_put (cs' := #[.int .i64 7, .int .i64 i, .int .i64 e, .string (⟨#[]⟩ : ByteArray)]) (blk_put (cs' := #[.int .i64 7, .int .i64 i, .int .i64 0, .string (⟨#[]⟩ : ByteArray)]) (blk_put (cs' := #[.int .i64 7, .int .i64 0, .int .i64 0, .string (⟨#[]⟩ : ByteArray)]) (blk_far (blk_drewN BG.out nq) (p := ⟨k, 0, none⟩) n_gk (.int .i64 7)) 0 (.int .i64 7) rfl) 1 (.int .i64 i) rfl) 2 (.int .i64 e) rfl) 3 (.string (⟨#[]⟩ : ByteArray)) rfl
      refine bodyPost_ret (results_ct rfl _ _ g 31 #[.int .i64 7, .int .i64 i, .int .i64 e, .string (⟨#[]⟩ : ByteArray)] (0, 0) _ rfl hch Tryd.underlying31 rfl (by kernel_rfl)) rfl ?_
      rw [← HRR.out]
      exact ⟨Or.inl ⟨rfl, rfl, CutAt.far (CutAt.far (CutAt.far (CutAt.far (CutAt.far (CutAt.drewN HC.out nq) n1_k 0 _) n1_g 0 _) n1_g 1 _) n1_g 2 _) n1_g 3 _⟩, Moved.new (Moved.new (Moved.new (Moved.new (Moved.new (Moved.drewN HM.out nq) s_k t_k 0 _) s_g t_g 0 _) s_g t_g 1 _) s_g t_g 2 _) s_g t_g 3 _⟩
  · have t1 : (X.toList == ([110, 117, 108, 108] : List UInt8)) = false := by rw [text_eq]; exact decide_eq_false a
    rw [if_neg a] at hR
    clear a
    by_cases a : X.data.toList = [102, 97, 108, 115, 101]
    · have t2 : (X.toList == ([102, 97, 108, 115, 101] : List UInt8)) = true := by rw [text_eq]; exact decide_eq_true a
      rw [if_neg (by rw [if_pos a]; decide), if_pos a] at hR
      clear a
      have HRR := Lib.hid hR
      clear hR
      go_enter Tryd.func31, Tryd.ntmps31
      go_wp2_with ((with_reducible refine gate_dst (N := 2) rfl ?_); refine box_event rfl (N := 2) rfl (cs := #[.int .i64 0, .int .i64 0, .int .i64 0, .string (⟨#[]⟩ : ByteArray)]) (t := 31) ?hr ?_; (case hr => first | (go_simp; done) | (go_simp; rfl)); intro g hg w1 hbox hb1; go_must (have g_0 : w1.cell? ⟨g, 0, none⟩ = some (.int .i64 0) := (blk_cell hbox 0).trans rfl; have g_1 : w1.cell? ⟨g, 1, none⟩ = some (.int .i64 0) := (blk_cell hbox 1).trans rfl; have g_2 : w1.cell? ⟨g, 2, none⟩ = some (.int .i64 0) := (blk_cell hbox 2).trans rfl; have g_3 : w1.cell? ⟨g, 3, none⟩ = some (.string ⟨#[]⟩) := (blk_cell hbox 3).trans rfl; have g_f0 := blk_frozen hbox 0; have g_f1 := blk_frozen hbox 1; have g_f2 := blk_frozen hbox 2; have g_f3 := blk_frozen hbox 3; have HB_g := Lib.hid hbox; have H_w1 := Lib.hid (CutAt.below H.out hb1); have M_w1 := Lib.hid (Moved.trans (Moved.refl (b := b) (w := w)) (Moved.of_below (CutAt.lt H.out) hb1)); have n1_g : ¬ b = g := (by have := CutAt.lt H.out; omega); have n2_g : ¬ g = b := (fun e => n1_g e.symm); have s_g : w.heap.size ≤ g := (by have := M_w1.out.below.size; have := ((Moved.refl (b := b) (w := w))).below.size; simp at *; omega); have t_g : b ≤ g := (by have := CutAt.lt H.out; simp at *; omega); have k0_w1 := H_w1.out.c0; have k1_w1 := H_w1.out.c1; have k2_w1 := H_w1.out.c2; have kf_w1 := H_w1.out.fr 2; have lt_g : g < w1.heap.size := blk_lt hbox; clear hg hbox hb1))
      have hRun := fun W hW => run_exact (b := b) (pl := pl) (⟨#[]⟩) (Nat.le_of_lt hi) hs W hW
      rw [run_word, HE.out] at hRun
      have lb_w1 := CutAt.lt H_w1.out
      go_region_with ((refine (hRun _ (by first | exact CutAt.drew H_w1.out | exact CutAt.alloc (CutAt.drew H_w1.out) _)).mono ?_; rintro e0 w9 ⟨rfl, hw9⟩; obtain rfl := hw9.symm))
      all_goals
        have hBk := blk_drew (blk_new w1 (.cells #[.int .i64 0, .int .i64 i, .int .i64 e, .string (⟨#[]⟩ : ByteArray)] 31))
        have hBg := blk_drew (blk_alloc HB_g.out (.cells #[.int .i64 0, .int .i64 i, .int .i64 e, .string (⟨#[]⟩ : ByteArray)] 31))
        have hC := CutAt.drew (CutAt.alloc H_w1.out (.cells #[.int .i64 0, .int .i64 i, .int .i64 e, .string (⟨#[]⟩ : ByteArray)] 31))
        have t_k : b ≤ w1.heap.size := Nat.le_of_lt lb_w1
        have hM := Moved.drew (Moved.alloc M_w1.out t_k (.cells #[.int .i64 0, .int .i64 i, .int .i64 e, .string (⟨#[]⟩ : ByteArray)] 31))
        have n_gk : ¬ g = w1.heap.size := by omega
        have n1_k : ¬ b = w1.heap.size := by omega
        have s_k : w.heap.size ≤ w1.heap.size := M_w1.out.below.size
        generalize hw3 : World.drew (w1.alloc (.cells #[.int .i64 0, .int .i64 i, .int .i64 e, .string (⟨#[]⟩ : ByteArray)] 31)) = w3 at hBk hBg hC hM ⊢
        generalize hkk : w1.heap.size = k at hBk n_gk n1_k s_k t_k ⊢
        have n_kg : ¬ k = g := fun e => n_gk e.symm
        have n2_k : ¬ k = b := fun e => n1_k e.symm
        clear hw3 hkk hRun lb_w1 g_0 g_f0 g_1 g_f1 g_2 g_f2 g_3 g_f3 k0_w1 k1_w1 k2_w1 kf_w1 lt_g
        have k3_0 : w3.cell? ⟨k, 0, none⟩ = some (.int .i64 0) := (blk_cell hBk 0).trans rfl
        have k3f_0 := blk_frozen hBk 0
        have g3_0 : w3.cell? ⟨g, 0, none⟩ = some (.int .i64 0) := (blk_cell hBg 0).trans rfl
        have g3f_0 := blk_frozen hBg 0
        have k3_1 : w3.cell? ⟨k, 1, none⟩ = some (.int .i64 i) := (blk_cell hBk 1).trans rfl
        have k3f_1 := blk_frozen hBk 1
        have g3_1 : w3.cell? ⟨g, 1, none⟩ = some (.int .i64 0) := (blk_cell hBg 1).trans rfl
        have g3f_1 := blk_frozen hBg 1
        have k3_2 : w3.cell? ⟨k, 2, none⟩ = some (.int .i64 e) := (blk_cell hBk 2).trans rfl
        have k3f_2 := blk_frozen hBk 2
        have g3_2 : w3.cell? ⟨g, 2, none⟩ = some (.int .i64 0) := (blk_cell hBg 2).trans rfl
        have g3f_2 := blk_frozen hBg 2
        have k3_3 : w3.cell? ⟨k, 3, none⟩ = some (.string (⟨#[]⟩ : ByteArray)) := (blk_cell hBk 3).trans rfl
        have k3f_3 := blk_frozen hBk 3
        have g3_3 : w3.cell? ⟨g, 3, none⟩ = some (.string ⟨#[]⟩) := (blk_cell hBg 3).trans rfl
        have g3f_3 := blk_frozen hBg 3
        have c3_0 := hC.c0
        have c3_1 := hC.c1
        have c3_2 := hC.c2
        have c3f := hC.fr 2
        have BK := Lib.hid hBk
        have BG := Lib.hid hBg
        have HC := Lib.hid hC
        have HM := Lib.hid hM
        clear hBk hBg hC hM
        go_wp2_with fail
        go_quiet (fail)
        rw [HX.out]
        go_wp2
        have hch := blk_put (cs' := #[.int .i64 8, .int .i64 i, .int .i64 e, .string (⟨#[]⟩ : ByteArray)]) (blk_put (cs' := #[.int .i64 8, .int .i64 i, .int .i64 e, .string (⟨#[]⟩ : ByteArray)]) (blk_put (cs' := #[.int .i64 8, .int .i64 i, .int .i64 0, .string (⟨#[]⟩ : ByteArray)]) (blk_put (cs' := #[.int .i64 8, .int .i64 0, .int .i64 0, .string (⟨#[]⟩ : ByteArray)]) (blk_far (blk_drewN BG.out nq) (p := ⟨k, 0, none⟩) n_gk (.int .i64 8)) 0 (.int .i64 8) rfl) 1 (.int .i64 i) rfl) 2 (.int .i64 e) rfl) 3 (.string (⟨#[]⟩ : ByteArray)) rfl
        refine bodyPost_ret (results_ct rfl _ _ g 31 #[.int .i64 8, .int .i64 i, .int .i64 e, .string (⟨#[]⟩ : ByteArray)] (0, 0) _ rfl hch Tryd.underlying31 rfl (by kernel_rfl)) rfl ?_
        rw [← HRR.out]
        exact ⟨Or.inl ⟨rfl, rfl, CutAt.far (CutAt.far (CutAt.far (CutAt.far (CutAt.far (CutAt.drewN HC.out nq) n1_k 0 _) n1_g 0 _) n1_g 1 _) n1_g 2 _) n1_g 3 _⟩, Moved.new (Moved.new (Moved.new (Moved.new (Moved.new (Moved.drewN HM.out nq) s_k t_k 0 _) s_g t_g 0 _) s_g t_g 1 _) s_g t_g 2 _) s_g t_g 3 _⟩
    · have t2 : (X.toList == ([102, 97, 108, 115, 101] : List UInt8)) = false := by rw [text_eq]; exact decide_eq_false a
      rw [if_neg a] at hR
      clear a
      by_cases a : X.data.toList = [116, 114, 117, 101]
      · have t3 : (X.toList == ([116, 114, 117, 101] : List UInt8)) = true := by rw [text_eq]; exact decide_eq_true a
        rw [if_neg (by rw [if_pos a]; decide), if_pos a] at hR
        clear a
        have HRR := Lib.hid hR
        clear hR
        go_enter Tryd.func31, Tryd.ntmps31
        go_wp2_with ((with_reducible refine gate_dst (N := 2) rfl ?_); refine box_event rfl (N := 2) rfl (cs := #[.int .i64 0, .int .i64 0, .int .i64 0, .string (⟨#[]⟩ : ByteArray)]) (t := 31) ?hr ?_; (case hr => first | (go_simp; done) | (go_simp; rfl)); intro g hg w1 hbox hb1; go_must (have g_0 : w1.cell? ⟨g, 0, none⟩ = some (.int .i64 0) := (blk_cell hbox 0).trans rfl; have g_1 : w1.cell? ⟨g, 1, none⟩ = some (.int .i64 0) := (blk_cell hbox 1).trans rfl; have g_2 : w1.cell? ⟨g, 2, none⟩ = some (.int .i64 0) := (blk_cell hbox 2).trans rfl; have g_3 : w1.cell? ⟨g, 3, none⟩ = some (.string ⟨#[]⟩) := (blk_cell hbox 3).trans rfl; have g_f0 := blk_frozen hbox 0; have g_f1 := blk_frozen hbox 1; have g_f2 := blk_frozen hbox 2; have g_f3 := blk_frozen hbox 3; have HB_g := Lib.hid hbox; have H_w1 := Lib.hid (CutAt.below H.out hb1); have M_w1 := Lib.hid (Moved.trans (Moved.refl (b := b) (w := w)) (Moved.of_below (CutAt.lt H.out) hb1)); have n1_g : ¬ b = g := (by have := CutAt.lt H.out; omega); have n2_g : ¬ g = b := (fun e => n1_g e.symm); have s_g : w.heap.size ≤ g := (by have := M_w1.out.below.size; have := ((Moved.refl (b := b) (w := w))).below.size; simp at *; omega); have t_g : b ≤ g := (by have := CutAt.lt H.out; simp at *; omega); have k0_w1 := H_w1.out.c0; have k1_w1 := H_w1.out.c1; have k2_w1 := H_w1.out.c2; have kf_w1 := H_w1.out.fr 2; have lt_g : g < w1.heap.size := blk_lt hbox; clear hg hbox hb1))
        have hRun := fun W hW => run_exact (b := b) (pl := pl) (⟨#[]⟩) (Nat.le_of_lt hi) hs W hW
        rw [run_word, HE.out] at hRun
        have lb_w1 := CutAt.lt H_w1.out
        go_region_with ((refine (hRun _ (by first | exact CutAt.drew H_w1.out | exact CutAt.alloc (CutAt.drew H_w1.out) _)).mono ?_; rintro e0 w9 ⟨rfl, hw9⟩; obtain rfl := hw9.symm))
        all_goals
          have hBk := blk_drew (blk_new w1 (.cells #[.int .i64 0, .int .i64 i, .int .i64 e, .string (⟨#[]⟩ : ByteArray)] 31))
          have hBg := blk_drew (blk_alloc HB_g.out (.cells #[.int .i64 0, .int .i64 i, .int .i64 e, .string (⟨#[]⟩ : ByteArray)] 31))
          have hC := CutAt.drew (CutAt.alloc H_w1.out (.cells #[.int .i64 0, .int .i64 i, .int .i64 e, .string (⟨#[]⟩ : ByteArray)] 31))
          have t_k : b ≤ w1.heap.size := Nat.le_of_lt lb_w1
          have hM := Moved.drew (Moved.alloc M_w1.out t_k (.cells #[.int .i64 0, .int .i64 i, .int .i64 e, .string (⟨#[]⟩ : ByteArray)] 31))
          have n_gk : ¬ g = w1.heap.size := by omega
          have n1_k : ¬ b = w1.heap.size := by omega
          have s_k : w.heap.size ≤ w1.heap.size := M_w1.out.below.size
          generalize hw3 : World.drew (w1.alloc (.cells #[.int .i64 0, .int .i64 i, .int .i64 e, .string (⟨#[]⟩ : ByteArray)] 31)) = w3 at hBk hBg hC hM ⊢
          generalize hkk : w1.heap.size = k at hBk n_gk n1_k s_k t_k ⊢
          have n_kg : ¬ k = g := fun e => n_gk e.symm
          have n2_k : ¬ k = b := fun e => n1_k e.symm
          clear hw3 hkk hRun lb_w1 g_0 g_f0 g_1 g_f1 g_2 g_f2 g_3 g_f3 k0_w1 k1_w1 k2_w1 kf_w1 lt_g
          have k3_0 : w3.cell? ⟨k, 0, none⟩ = some (.int .i64 0) := (blk_cell hBk 0).trans rfl
          have k3f_0 := blk_frozen hBk 0
          have g3_0 : w3.cell? ⟨g, 0, none⟩ = some (.int .i64 0) := (blk_cell hBg 0).trans rfl
          have g3f_0 := blk_frozen hBg 0
          have k3_1 : w3.cell? ⟨k, 1, none⟩ = some (.int .i64 i) := (blk_cell hBk 1).trans rfl
          have k3f_1 := blk_frozen hBk 1
          have g3_1 : w3.cell? ⟨g, 1, none⟩ = some (.int .i64 0) := (blk_cell hBg 1).trans rfl
          have g3f_1 := blk_frozen hBg 1
          have k3_2 : w3.cell? ⟨k, 2, none⟩ = some (.int .i64 e) := (blk_cell hBk 2).trans rfl
          have k3f_2 := blk_frozen hBk 2
          have g3_2 : w3.cell? ⟨g, 2, none⟩ = some (.int .i64 0) := (blk_cell hBg 2).trans rfl
          have g3f_2 := blk_frozen hBg 2
          have k3_3 : w3.cell? ⟨k, 3, none⟩ = some (.string (⟨#[]⟩ : ByteArray)) := (blk_cell hBk 3).trans rfl
          have k3f_3 := blk_frozen hBk 3
          have g3_3 : w3.cell? ⟨g, 3, none⟩ = some (.string ⟨#[]⟩) := (blk_cell hBg 3).trans rfl
          have g3f_3 := blk_frozen hBg 3
          have c3_0 := hC.c0
          have c3_1 := hC.c1
          have c3_2 := hC.c2
          have c3f := hC.fr 2
          have BK := Lib.hid hBk
          have BG := Lib.hid hBg
          have HC := Lib.hid hC
          have HM := Lib.hid hM
          clear hBk hBg hC hM
          go_wp2_with fail
          go_quiet (fail)
          rw [HX.out]
          go_wp2
          have hch := blk_put (cs' := #[.int .i64 9, .int .i64 i, .int .i64 e, .string (⟨#[]⟩ : ByteArray)]) (blk_put (cs' := #[.int .i64 9, .int .i64 i, .int .i64 e, .string (⟨#[]⟩ : ByteArray)]) (blk_put (cs' := #[.int .i64 9, .int .i64 i, .int .i64 0, .string (⟨#[]⟩ : ByteArray)]) (blk_put (cs' := #[.int .i64 9, .int .i64 0, .int .i64 0, .string (⟨#[]⟩ : ByteArray)]) (blk_far (blk_drewN BG.out nq) (p := ⟨k, 0, none⟩) n_gk (.int .i64 9)) 0 (.int .i64 9) rfl) 1 (.int .i64 i) rfl) 2 (.int .i64 e) rfl) 3 (.string (⟨#[]⟩ : ByteArray)) rfl
          refine bodyPost_ret (results_ct rfl _ _ g 31 #[.int .i64 9, .int .i64 i, .int .i64 e, .string (⟨#[]⟩ : ByteArray)] (0, 0) _ rfl hch Tryd.underlying31 rfl (by kernel_rfl)) rfl ?_
          rw [← HRR.out]
          exact ⟨Or.inl ⟨rfl, rfl, CutAt.far (CutAt.far (CutAt.far (CutAt.far (CutAt.far (CutAt.drewN HC.out nq) n1_k 0 _) n1_g 0 _) n1_g 1 _) n1_g 2 _) n1_g 3 _⟩, Moved.new (Moved.new (Moved.new (Moved.new (Moved.new (Moved.drewN HM.out nq) s_k t_k 0 _) s_g t_g 0 _) s_g t_g 1 _) s_g t_g 2 _) s_g t_g 3 _⟩
      · have t3 : (X.toList == ([116, 114, 117, 101] : List UInt8)) = false := by rw [text_eq]; exact decide_eq_false a
        rw [if_neg a, if_pos rfl] at hR
        clear a
        have HRR := Lib.hid hR
        clear hR
        go_enter Tryd.func31, Tryd.ntmps31
        go_wp2_with ((with_reducible refine gate_dst (N := 2) rfl ?_); refine box_event rfl (N := 2) rfl (cs := #[.int .i64 0, .int .i64 0, .int .i64 0, .string (⟨#[]⟩ : ByteArray)]) (t := 31) ?hr ?_; (case hr => first | (go_simp; done) | (go_simp; rfl)); intro g hg w1 hbox hb1; go_must (have g_0 : w1.cell? ⟨g, 0, none⟩ = some (.int .i64 0) := (blk_cell hbox 0).trans rfl; have g_1 : w1.cell? ⟨g, 1, none⟩ = some (.int .i64 0) := (blk_cell hbox 1).trans rfl; have g_2 : w1.cell? ⟨g, 2, none⟩ = some (.int .i64 0) := (blk_cell hbox 2).trans rfl; have g_3 : w1.cell? ⟨g, 3, none⟩ = some (.string ⟨#[]⟩) := (blk_cell hbox 3).trans rfl; have g_f0 := blk_frozen hbox 0; have g_f1 := blk_frozen hbox 1; have g_f2 := blk_frozen hbox 2; have g_f3 := blk_frozen hbox 3; have HB_g := Lib.hid hbox; have H_w1 := Lib.hid (CutAt.below H.out hb1); have M_w1 := Lib.hid (Moved.trans (Moved.refl (b := b) (w := w)) (Moved.of_below (CutAt.lt H.out) hb1)); have n1_g : ¬ b = g := (by have := CutAt.lt H.out; omega); have n2_g : ¬ g = b := (fun e => n1_g e.symm); have s_g : w.heap.size ≤ g := (by have := M_w1.out.below.size; have := ((Moved.refl (b := b) (w := w))).below.size; simp at *; omega); have t_g : b ≤ g := (by have := CutAt.lt H.out; simp at *; omega); have k0_w1 := H_w1.out.c0; have k1_w1 := H_w1.out.c1; have k2_w1 := H_w1.out.c2; have kf_w1 := H_w1.out.fr 2; have lt_g : g < w1.heap.size := blk_lt hbox; clear hg hbox hb1))
        have hRun := fun W hW => run_exact (b := b) (pl := pl) (⟨#[]⟩) (Nat.le_of_lt hi) hs W hW
        rw [run_word, HE.out] at hRun
        have lb_w1 := CutAt.lt H_w1.out
        go_region_with ((refine (hRun _ (by first | exact CutAt.drew H_w1.out | exact CutAt.alloc (CutAt.drew H_w1.out) _)).mono ?_; rintro e0 w9 ⟨rfl, hw9⟩; obtain rfl := hw9.symm))
        all_goals
          have hBk := blk_drew (blk_new w1 (.cells #[.int .i64 0, .int .i64 i, .int .i64 e, .string (⟨#[]⟩ : ByteArray)] 31))
          have hBg := blk_drew (blk_alloc HB_g.out (.cells #[.int .i64 0, .int .i64 i, .int .i64 e, .string (⟨#[]⟩ : ByteArray)] 31))
          have hC := CutAt.drew (CutAt.alloc H_w1.out (.cells #[.int .i64 0, .int .i64 i, .int .i64 e, .string (⟨#[]⟩ : ByteArray)] 31))
          have t_k : b ≤ w1.heap.size := Nat.le_of_lt lb_w1
          have hM := Moved.drew (Moved.alloc M_w1.out t_k (.cells #[.int .i64 0, .int .i64 i, .int .i64 e, .string (⟨#[]⟩ : ByteArray)] 31))
          have n_gk : ¬ g = w1.heap.size := by omega
          have n1_k : ¬ b = w1.heap.size := by omega
          have s_k : w.heap.size ≤ w1.heap.size := M_w1.out.below.size
          generalize hw3 : World.drew (w1.alloc (.cells #[.int .i64 0, .int .i64 i, .int .i64 e, .string (⟨#[]⟩ : ByteArray)] 31)) = w3 at hBk hBg hC hM ⊢
          generalize hkk : w1.heap.size = k at hBk n_gk n1_k s_k t_k ⊢
          have n_kg : ¬ k = g := fun e => n_gk e.symm
          have n2_k : ¬ k = b := fun e => n1_k e.symm
          clear hw3 hkk hRun lb_w1 g_0 g_f0 g_1 g_f1 g_2 g_f2 g_3 g_f3 k0_w1 k1_w1 k2_w1 kf_w1 lt_g
          have k3_0 : w3.cell? ⟨k, 0, none⟩ = some (.int .i64 0) := (blk_cell hBk 0).trans rfl
          have k3f_0 := blk_frozen hBk 0
          have g3_0 : w3.cell? ⟨g, 0, none⟩ = some (.int .i64 0) := (blk_cell hBg 0).trans rfl
          have g3f_0 := blk_frozen hBg 0
          have k3_1 : w3.cell? ⟨k, 1, none⟩ = some (.int .i64 i) := (blk_cell hBk 1).trans rfl
          have k3f_1 := blk_frozen hBk 1
          have g3_1 : w3.cell? ⟨g, 1, none⟩ = some (.int .i64 0) := (blk_cell hBg 1).trans rfl
          have g3f_1 := blk_frozen hBg 1
          have k3_2 : w3.cell? ⟨k, 2, none⟩ = some (.int .i64 e) := (blk_cell hBk 2).trans rfl
          have k3f_2 := blk_frozen hBk 2
          have g3_2 : w3.cell? ⟨g, 2, none⟩ = some (.int .i64 0) := (blk_cell hBg 2).trans rfl
          have g3f_2 := blk_frozen hBg 2
          have k3_3 : w3.cell? ⟨k, 3, none⟩ = some (.string (⟨#[]⟩ : ByteArray)) := (blk_cell hBk 3).trans rfl
          have k3f_3 := blk_frozen hBk 3
          have g3_3 : w3.cell? ⟨g, 3, none⟩ = some (.string ⟨#[]⟩) := (blk_cell hBg 3).trans rfl
          have g3f_3 := blk_frozen hBg 3
          have c3_0 := hC.c0
          have c3_1 := hC.c1
          have c3_2 := hC.c2
          have c3f := hC.fr 2
          have BK := Lib.hid hBk
          have BG := Lib.hid hBg
          have HC := Lib.hid hC
          have HM := Lib.hid hM
          clear hBk hBg hC hM
          go_wp2_with fail
          go_quiet (fail)
          rw [HX.out]
          go_wp2
          have hch := blk_put (cs' := #[.int .i64 0, .int .i64 0, .int .i64 0, .string (⟨#[]⟩ : ByteArray)]) (blk_put (cs' := #[.int .i64 0, .int .i64 0, .int .i64 0, .string (⟨#[]⟩ : ByteArray)]) (blk_put (cs' := #[.int .i64 0, .int .i64 0, .int .i64 0, .string (⟨#[]⟩ : ByteArray)]) (blk_put (cs' := #[.int .i64 0, .int .i64 0, .int .i64 0, .string (⟨#[]⟩ : ByteArray)]) (blk_far (blk_drewN BG.out nq) (p := ⟨b, 2, none⟩) n2_g (.int .i64 i)) 0 (.int .i64 0) rfl) 1 (.int .i64 0) rfl) 2 (.int .i64 0) rfl) 3 (.string (⟨#[]⟩ : ByteArray)) rfl
          refine bodyPost_ret (results_ct rfl _ _ g 31 #[.int .i64 0, .int .i64 0, .int .i64 0, .string (⟨#[]⟩ : ByteArray)] (0, 0) _ rfl hch Tryd.underlying31 rfl (by kernel_rfl)) rfl ?_
          rw [← HRR.out]
          exact ⟨Or.inr ⟨by show (41 : Int) ≠ 0; decide, rfl, CutAt.far (CutAt.far (CutAt.far (CutAt.far (CutAt.place (CutAt.drewN HC.out nq) i) n1_g 0 _) n1_g 1 _) n1_g 2 _) n1_g 3 _⟩, Moved.new (Moved.new (Moved.new (Moved.new (Moved.own (Moved.drewN HM.out nq) 2 (.int .i64 i)) s_g t_g 0 _) s_g t_g 1 _) s_g t_g 2 _) s_g t_g 3 _⟩

end Go.Proofs.YtkfcoikfhpabmaaDoor.U

namespace Go.Proofs.YtkfcoikfhpabmaaDoor.U
open Go.RowKit Go.Proofs.YtkfcoikfhpabmaaDoorW.PrintWords
set_option linter.unusedSimpArgs false
set_option linter.unusedVariables false

set_option maxHeartbeats 16000000 in
set_option maxRecDepth 100000 in
theorem numeral_calls {b : Nat} {s : ByteArray} {pl : Int} (i : Nat) (hi : i < s.size) (hs : s.size ≤ 1073741824) (e : Nat) (he : runEnd numT s (s.size - i) i = e) (w : World) (h : CutAt w b s i pl) :
    Calls Tryd.prog 32 #[.pointer (some ⟨b, 0, none⟩)] w (CutEnd b s i pl (if formedB (numB (s.extract i e)) = true then ⟨0, 0, 10, e, numB (s.extract i e)⟩ else ⟨42, i, 0, i, ⟨#[]⟩⟩) w) := by
  have hbd := runEnd_bounds numT s (s.size - i) i (by omega)
  rw [he] at hbd
  have HE := Lib.hid he
  have H := Lib.hid h
  clear h he
  have hi0 : (0 : Int) ≤ (i : Int) := by omega
  have hi1 : (i : Int) ≤ (e : Int) := by omega
  have hi2 : (e : Int) ≤ (s.size : Int) := by omega
  obtain ⟨X, hX⟩ : ∃ X, s.extract i e = X := ⟨_, rfl⟩
  have hXs : X.size ≤ 1073741824 := by rw [← hX, ByteArray.size_extract]; omega
  rw [hX]
  have HX := Lib.hid hX
  clear hX
  have hYs : (numB X).size ≤ 1073741824 := by
    unfold numB
    split
    · decide
    · exact hXs
  have hform := formed_some (numB X) hYs
  obtain ⟨R, hR⟩ : ∃ R, (if formedB (numB X) = true then (⟨0, 0, 10, e, numB X⟩ : TokR) else ⟨42, i, 0, i, ⟨#[]⟩⟩) = R := ⟨_, rfl⟩
  rw [hR]
  obtain ⟨fb, hfb⟩ : ∃ fb, formedB (numB X) = fb := ⟨_, rfl⟩
  rw [hfb] at hR hform
  have hFm := fun W => tens_Formed.calls _ (numB X) fb W hform
  clear hform hfb hYs
  by_cases a : X.data.toList = [45, 48]
  · have t1 : (X.toList == ([45, 48] : List UInt8)) = true := by rw [text_eq]; exact decide_eq_true a
    have ny : numB X = ⟨#[48]⟩ := if_pos a
    rw [ny] at hR hFm
    clear a ny
    cases fb with
    | true =>
      rw [if_pos rfl] at hR
      have HRR := Lib.hid hR
      clear hR
      go_enter Tryd.func32, Tryd.ntmps32
      go_wp2_with ((with_reducible refine gate_dst (N := 2) rfl ?_); refine box_event rfl (N := 2) rfl (cs := #[.int .i64 0, .int .i64 0, .int .i64 0, .string (⟨#[]⟩ : ByteArray)]) (t := 31) ?hr ?_; (case hr => first | (go_simp; done) | (go_simp; rfl)); intro g hg w1 hbox hb1; go_must (have g_0 : w1.cell? ⟨g, 0, none⟩ = some (.int .i64 0) := (blk_cell hbox 0).trans rfl; have g_1 : w1.cell? ⟨g, 1, none⟩ = some (.int .i64 0) := (blk_cell hbox 1).trans rfl; have g_2 : w1.cell? ⟨g, 2, none⟩ = some (.int .i64 0) := (blk_cell hbox 2).trans rfl; have g_3 : w1.cell? ⟨g, 3, none⟩ = some (.string ⟨#[]⟩) := (blk_cell hbox 3).trans rfl; have g_f0 := blk_frozen hbox 0; have g_f1 := blk_frozen hbox 1; have g_f2 := blk_frozen hbox 2; have g_f3 := blk_frozen hbox 3; have HB_g := Lib.hid hbox; have H_w1 := Lib.hid (CutAt.below H.out hb1); have M_w1 := Lib.hid (Moved.trans (Moved.refl (b := b) (w := w)) (Moved.of_below (CutAt.lt H.out) hb1)); have n1_g : ¬ b = g := (by have := CutAt.lt H.out; omega); have n2_g : ¬ g = b := (fun e => n1_g e.symm); have s_g : w.heap.size ≤ g := (by have := M_w1.out.below.size; have := ((Moved.refl (b := b) (w := w))).below.size; simp at *; omega); have t_g : b ≤ g := (by have := CutAt.lt H.out; simp at *; omega); have k0_w1 := H_w1.out.c0; have k1_w1 := H_w1.out.c1; have k2_w1 := H_w1.out.c2; have kf_w1 := H_w1.out.fr 2; have lt_g : g < w1.heap.size := blk_lt hbox; clear hg hbox hb1))
      have hRun := fun W hW => run_exact (b := b) (pl := pl) (⟨#[43, 45, 46]⟩) (Nat.le_of_lt hi) hs W hW
      rw [run_num, HE.out] at hRun
      have lb_w1 := CutAt.lt H_w1.out
      go_region_with ((refine (hRun _ (by first | exact CutAt.drew H_w1.out | exact CutAt.alloc (CutAt.drew H_w1.out) _)).mono ?_; rintro e0 w9 ⟨rfl, hw9⟩; obtain rfl := hw9.symm))
      all_goals
        have hBk := blk_drew (blk_new w1 (.cells #[.int .i64 10, .int .i64 i, .int .i64 e, .string (⟨#[]⟩ : ByteArray)] 31))
        have hBg := blk_drew (blk_alloc HB_g.out (.cells #[.int .i64 10, .int .i64 i, .int .i64 e, .string (⟨#[]⟩ : ByteArray)] 31))
        have hC := CutAt.drew (CutAt.alloc H_w1.out (.cells #[.int .i64 10, .int .i64 i, .int .i64 e, .string (⟨#[]⟩ : ByteArray)] 31))
        have t_k : b ≤ w1.heap.size := Nat.le_of_lt lb_w1
        have hM := Moved.drew (Moved.alloc M_w1.out t_k (.cells #[.int .i64 10, .int .i64 i, .int .i64 e, .string (⟨#[]⟩ : ByteArray)] 31))
        have n_gk : ¬ g = w1.heap.size := by omega
        have n1_k : ¬ b = w1.heap.size := by omega
        have s_k : w.heap.size ≤ w1.heap.size := M_w1.out.below.size
        generalize hw3 : World.drew (w1.alloc (.cells #[.int .i64 10, .int .i64 i, .int .i64 e, .string (⟨#[]⟩ : ByteArray)] 31)) = w3 at hBk hBg hC hM ⊢
        generalize hkk : w1.heap.size = k at hBk n_gk n1_k s_k t_k ⊢
        have n_kg : ¬ k = g := fun e => n_gk e.symm
        have n2_k : ¬ k = b := fun e => n1_k e.symm
        clear hw3 hkk hRun lb_w1 g_0 g_f0 g_1 g_f1 g_2 g_f2 g_3 g_f3 k0_w1 k1_w1 k2_w1 kf_w1 lt_g
        have k3_0 : w3.cell? ⟨k, 0, none⟩ = some (.int .i64 10) := (blk_cell hBk 0).trans rfl
        have k3f_0 := blk_frozen hBk 0
        have g3_0 : w3.cell? ⟨g, 0, none⟩ = some (.int .i64 0) := (blk_cell hBg 0).trans rfl
        have g3f_0 := blk_frozen hBg 0
        have k3_1 : w3.cell? ⟨k, 1, none⟩ = some (.int .i64 i) := (blk_cell hBk 1).trans rfl
        have k3f_1 := blk_frozen hBk 1
        have g3_1 : w3.cell? ⟨g, 1, none⟩ = some (.int .i64 0) := (blk_cell hBg 1).trans rfl
        have g3f_1 := blk_frozen hBg 1
        have k3_2 : w3.cell? ⟨k, 2, none⟩ = some (.int .i64 e) := (blk_cell hBk 2).trans rfl
        have k3f_2 := blk_frozen hBk 2
        have g3_2 : w3.cell? ⟨g, 2, none⟩ = some (.int .i64 0) := (blk_cell hBg 2).trans rfl
        have g3f_2 := blk_frozen hBg 2
        have k3_3 : w3.cell? ⟨k, 3, none⟩ = some (.string (⟨#[]⟩ : ByteArray)) := (blk_cell hBk 3).trans rfl
        have k3f_3 := blk_frozen hBk 3
        have g3_3 : w3.cell? ⟨g, 3, none⟩ = some (.string ⟨#[]⟩) := (blk_cell hBg 3).trans rfl
        have g3f_3 := blk_frozen hBg 3
        have c3_0 := hC.c0
        have c3_1 := hC.c1
        have c3_2 := hC.c2
        have c3f := hC.fr 2
        have BK := Lib.hid hBk
        have BG := Lib.hid hBg
        have HC := Lib.hid hC
        have HM := Lib.hid hM
        clear hBk hBg hC hM
        go_wp2_with fail
        refine wp_region_still_tail 10 (by kernel_rfl) (by kernel_rfl) ?_
        simp only [List.take_succ_cons, List.take_zero, List.drop_succ_cons, List.drop_zero]
        repeat still_step
        refine wpStill_nil ?_
        change wpList _ _ _ _ _ w3.drew
        rw [HX.out]
        go_upto_region 3 with (fail)
        have hBk4 := blk_drew (blk_put (cs' := #[.int .i64 10, .int .i64 i, .int .i64 e, .string X]) BK.out 3 (.string X) rfl)
        have hBg4 := blk_drew (blk_far BG.out (p := ⟨k, 3, none⟩) n_gk (.string X))
        have hC4 := CutAt.drew (CutAt.far HC.out n1_k 3 (.string X))
        have hM4 := Moved.drew (Moved.new HM.out s_k t_k 3 (.string X))
        generalize hw4 : World.drew (w3.setCell ⟨k, 3, none⟩ (.string X)) = w4 at hBk4 hBg4 hC4 hM4 ⊢
        clear hw4 c3_0 c3_1 c3_2 c3f BK BG HC HM k3_0 k3f_0 g3_0 g3f_0 k3_1 k3f_1 g3_1 g3f_1 k3_2 k3f_2 g3_2 g3f_2 k3_3 k3f_3 g3_3 g3f_3
        have k4_0 : w4.cell? ⟨k, 0, none⟩ = some (.int .i64 10) := (blk_cell hBk4 0).trans rfl
        have k4f_0 := blk_frozen hBk4 0
        have g4_0 : w4.cell? ⟨g, 0, none⟩ = some (.int .i64 0) := (blk_cell hBg4 0).trans rfl
        have g4f_0 := blk_frozen hBg4 0
        have k4_1 : w4.cell? ⟨k, 1, none⟩ = some (.int .i64 i) := (blk_cell hBk4 1).trans rfl
        have k4f_1 := blk_frozen hBk4 1
        have g4_1 : w4.cell? ⟨g, 1, none⟩ = some (.int .i64 0) := (blk_cell hBg4 1).trans rfl
        have g4f_1 := blk_frozen hBg4 1
        have k4_2 : w4.cell? ⟨k, 2, none⟩ = some (.int .i64 e) := (blk_cell hBk4 2).trans rfl
        have k4f_2 := blk_frozen hBk4 2
        have g4_2 : w4.cell? ⟨g, 2, none⟩ = some (.int .i64 0) := (blk_cell hBg4 2).trans rfl
        have g4f_2 := blk_frozen hBg4 2
        have k4_3 : w4.cell? ⟨k, 3, none⟩ = some (.string X) := (blk_cell hBk4 3).trans rfl
        have k4f_3 := blk_frozen hBk4 3
        have g4_3 : w4.cell? ⟨g, 3, none⟩ = some (.string ⟨#[]⟩) := (blk_cell hBg4 3).trans rfl
        have g4f_3 := blk_frozen hBg4 3
        have c4_1 := hC4.c1
        have c4_2 := hC4.c2
        have c4f := hC4.fr 2
        have BK := Lib.hid hBk4
        have BG := Lib.hid hBg4
        have HC := Lib.hid hC4
        have HM := Lib.hid hM4
        clear hBk4 hBg4 hC4 hM4
        go_wp2_with (go_at_call 41; (with_reducible refine (hFm _).mono ?_); rintro e0 w9 ⟨rfl, ⟨nd, rfl⟩⟩)
        have hch := blk_put (cs' := #[.int .i64 10, .int .i64 i, .int .i64 e, .string ⟨#[48]⟩]) (blk_put (cs' := #[.int .i64 10, .int .i64 i, .int .i64 e, .string (⟨#[]⟩ : ByteArray)]) (blk_put (cs' := #[.int .i64 10, .int .i64 i, .int .i64 0, .string (⟨#[]⟩ : ByteArray)]) (blk_put (cs' := #[.int .i64 10, .int .i64 0, .int .i64 0, .string (⟨#[]⟩ : ByteArray)]) (blk_drewN (blk_far BG.out (p := ⟨k, 3, none⟩) n_gk (.string ⟨#[48]⟩)) nd) 0 (.int .i64 10) rfl) 1 (.int .i64 i) rfl) 2 (.int .i64 e) rfl) 3 (.string ⟨#[48]⟩) rfl
        refine bodyPost_ret (results_ct rfl _ _ g 31 #[.int .i64 10, .int .i64 i, .int .i64 e, .string ⟨#[48]⟩] (0, 0) _ rfl hch Tryd.underlying31 rfl (by kernel_rfl)) rfl ?_
        rw [← HRR.out]
        exact ⟨Or.inl ⟨rfl, rfl, CutAt.far (CutAt.far (CutAt.far (CutAt.far (CutAt.drewN (CutAt.far HC.out n1_k 3 (.string ⟨#[48]⟩)) nd) n1_g 0 _) n1_g 1 _) n1_g 2 _) n1_g 3 _⟩, Moved.new (Moved.new (Moved.new (Moved.new (Moved.drewN (Moved.new HM.out s_k t_k 3 (.string ⟨#[48]⟩)) nd) s_g t_g 0 _) s_g t_g 1 _) s_g t_g 2 _) s_g t_g 3 _⟩
    | false =>
      rw [if_neg (by decide)] at hR
      have HRR := Lib.hid hR
      clear hR
      go_enter Tryd.func32, Tryd.ntmps32
      go_wp2_with ((with_reducible refine gate_dst (N := 2) rfl ?_); refine box_event rfl (N := 2) rfl (cs := #[.int .i64 0, .int .i64 0, .int .i64 0, .string (⟨#[]⟩ : ByteArray)]) (t := 31) ?hr ?_; (case hr => first | (go_simp; done) | (go_simp; rfl)); intro g hg w1 hbox hb1; go_must (have g_0 : w1.cell? ⟨g, 0, none⟩ = some (.int .i64 0) := (blk_cell hbox 0).trans rfl; have g_1 : w1.cell? ⟨g, 1, none⟩ = some (.int .i64 0) := (blk_cell hbox 1).trans rfl; have g_2 : w1.cell? ⟨g, 2, none⟩ = some (.int .i64 0) := (blk_cell hbox 2).trans rfl; have g_3 : w1.cell? ⟨g, 3, none⟩ = some (.string ⟨#[]⟩) := (blk_cell hbox 3).trans rfl; have g_f0 := blk_frozen hbox 0; have g_f1 := blk_frozen hbox 1; have g_f2 := blk_frozen hbox 2; have g_f3 := blk_frozen hbox 3; have HB_g := Lib.hid hbox; have H_w1 := Lib.hid (CutAt.below H.out hb1); have M_w1 := Lib.hid (Moved.trans (Moved.refl (b := b) (w := w)) (Moved.of_below (CutAt.lt H.out) hb1)); have n1_g : ¬ b = g := (by have := CutAt.lt H.out; omega); have n2_g : ¬ g = b := (fun e => n1_g e.symm); have s_g : w.heap.size ≤ g := (by have := M_w1.out.below.size; have := ((Moved.refl (b := b) (w := w))).below.size; simp at *; omega); have t_g : b ≤ g := (by have := CutAt.lt H.out; simp at *; omega); have k0_w1 := H_w1.out.c0; have k1_w1 := H_w1.out.c1; have k2_w1 := H_w1.out.c2; have kf_w1 := H_w1.out.fr 2; have lt_g : g < w1.heap.size := blk_lt hbox; clear hg hbox hb1))
      have hRun := fun W hW => run_exact (b := b) (pl := pl) (⟨#[43, 45, 46]⟩) (Nat.le_of_lt hi) hs W hW
      rw [run_num, HE.out] at hRun
      have lb_w1 := CutAt.lt H_w1.out
      go_region_with ((refine (hRun _ (by first | exact CutAt.drew H_w1.out | exact CutAt.alloc (CutAt.drew H_w1.out) _)).mono ?_; rintro e0 w9 ⟨rfl, hw9⟩; obtain rfl := hw9.symm))
      all_goals
        have hBk := blk_drew (blk_new w1 (.cells #[.int .i64 10, .int .i64 i, .int .i64 e, .string (⟨#[]⟩ : ByteArray)] 31))
        have hBg := blk_drew (blk_alloc HB_g.out (.cells #[.int .i64 10, .int .i64 i, .int .i64 e, .string (⟨#[]⟩ : ByteArray)] 31))
        have hC := CutAt.drew (CutAt.alloc H_w1.out (.cells #[.int .i64 10, .int .i64 i, .int .i64 e, .string (⟨#[]⟩ : ByteArray)] 31))
        have t_k : b ≤ w1.heap.size := Nat.le_of_lt lb_w1
        have hM := Moved.drew (Moved.alloc M_w1.out t_k (.cells #[.int .i64 10, .int .i64 i, .int .i64 e, .string (⟨#[]⟩ : ByteArray)] 31))
        have n_gk : ¬ g = w1.heap.size := by omega
        have n1_k : ¬ b = w1.heap.size := by omega
        have s_k : w.heap.size ≤ w1.heap.size := M_w1.out.below.size
        generalize hw3 : World.drew (w1.alloc (.cells #[.int .i64 10, .int .i64 i, .int .i64 e, .string (⟨#[]⟩ : ByteArray)] 31)) = w3 at hBk hBg hC hM ⊢
        generalize hkk : w1.heap.size = k at hBk n_gk n1_k s_k t_k ⊢
        have n_kg : ¬ k = g := fun e => n_gk e.symm
        have n2_k : ¬ k = b := fun e => n1_k e.symm
        clear hw3 hkk hRun lb_w1 g_0 g_f0 g_1 g_f1 g_2 g_f2 g_3 g_f3 k0_w1 k1_w1 k2_w1 kf_w1 lt_g
        have k3_0 : w3.cell? ⟨k, 0, none⟩ = some (.int .i64 10) := (blk_cell hBk 0).trans rfl
        have k3f_0 := blk_frozen hBk 0
        have g3_0 : w3.cell? ⟨g, 0, none⟩ = some (.int .i64 0) := (blk_cell hBg 0).trans rfl
        have g3f_0 := blk_frozen hBg 0
        have k3_1 : w3.cell? ⟨k, 1, none⟩ = some (.int .i64 i) := (blk_cell hBk 1).trans rfl
        have k3f_1 := blk_frozen hBk 1
        have g3_1 : w3.cell? ⟨g, 1, none⟩ = some (.int .i64 0) := (blk_cell hBg 1).trans rfl
        have g3f_1 := blk_frozen hBg 1
        have k3_2 : w3.cell? ⟨k, 2, none⟩ = some (.int .i64 e) := (blk_cell hBk 2).trans rfl
        have k3f_2 := blk_frozen hBk 2
        have g3_2 : w3.cell? ⟨g, 2, none⟩ = some (.int .i64 0) := (blk_cell hBg 2).trans rfl
        have g3f_2 := blk_frozen hBg 2
        have k3_3 : w3.cell? ⟨k, 3, none⟩ = some (.string (⟨#[]⟩ : ByteArray)) := (blk_cell hBk 3).trans rfl
        have k3f_3 := blk_frozen hBk 3
        have g3_3 : w3.cell? ⟨g, 3, none⟩ = some (.string ⟨#[]⟩) := (blk_cell hBg 3).trans rfl
        have g3f_3 := blk_frozen hBg 3
        have c3_0 := hC.c0
        have c3_1 := hC.c1
        have c3_2 := hC.c2
        have c3f := hC.fr 2
        have BK := Lib.hid hBk
        have BG := Lib.hid hBg
        have HC := Lib.hid hC
        have HM := Lib.hid hM
        clear hBk hBg hC hM
        go_wp2_with fail
        refine wp_region_still_tail 10 (by kernel_rfl) (by kernel_rfl) ?_
        simp only [List.take_succ_cons, List.take_zero, List.drop_succ_cons, List.drop_zero]
        repeat still_step
        refine wpStill_nil ?_
        change wpList _ _ _ _ _ w3.drew
        rw [HX.out]
        go_upto_region 3 with (fail)
        have hBk4 := blk_drew (blk_put (cs' := #[.int .i64 10, .int .i64 i, .int .i64 e, .string X]) BK.out 3 (.string X) rfl)
        have hBg4 := blk_drew (blk_far BG.out (p := ⟨k, 3, none⟩) n_gk (.string X))
        have hC4 := CutAt.drew (CutAt.far HC.out n1_k 3 (.string X))
        have hM4 := Moved.drew (Moved.new HM.out s_k t_k 3 (.string X))
        generalize hw4 : World.drew (w3.setCell ⟨k, 3, none⟩ (.string X)) = w4 at hBk4 hBg4 hC4 hM4 ⊢
        clear hw4 c3_0 c3_1 c3_2 c3f BK BG HC HM k3_0 k3f_0 g3_0 g3f_0 k3_1 k3f_1 g3_1 g3f_1 k3_2 k3f_2 g3_2 g3f_2 k3_3 k3f_3 g3_3 g3f_3
        have k4_0 : w4.cell? ⟨k, 0, none⟩ = some (.int .i64 10) := (blk_cell hBk4 0).trans rfl
        have k4f_0 := blk_frozen hBk4 0
        have g4_0 : w4.cell? ⟨g, 0, none⟩ = some (.int .i64 0) := (blk_cell hBg4 0).trans rfl
        have g4f_0 := blk_frozen hBg4 0
        have k4_1 : w4.cell? ⟨k, 1, none⟩ = some (.int .i64 i) := (blk_cell hBk4 1).trans rfl
        have k4f_1 := blk_frozen hBk4 1
        have g4_1 : w4.cell? ⟨g, 1, none⟩ = some (.int .i64 0) := (blk_cell hBg4 1).trans rfl
        have g4f_1 := blk_frozen hBg4 1
        have k4_2 : w4.cell? ⟨k, 2, none⟩ = some (.int .i64 e) := (blk_cell hBk4 2).trans rfl
        have k4f_2 := blk_frozen hBk4 2
        have g4_2 : w4.cell? ⟨g, 2, none⟩ = some (.int .i64 0) := (blk_cell hBg4 2).trans rfl
        have g4f_2 := blk_frozen hBg4 2
        have k4_3 : w4.cell? ⟨k, 3, none⟩ = some (.string X) := (blk_cell hBk4 3).trans rfl
        have k4f_3 := blk_frozen hBk4 3
        have g4_3 : w4.cell? ⟨g, 3, none⟩ = some (.string ⟨#[]⟩) := (blk_cell hBg4 3).trans rfl
        have g4f_3 := blk_frozen hBg4 3
        have c4_1 := hC4.c1
        have c4_2 := hC4.c2
        have c4f := hC4.fr 2
        have BK := Lib.hid hBk4
        have BG := Lib.hid hBg4
        have HC := Lib.hid hC4
        have HM := Lib.hid hM4
        clear hBk4 hBg4 hC4 hM4
        go_wp2_with (go_at_call 41; (with_reducible refine (hFm _).mono ?_); rintro e0 w9 ⟨rfl, ⟨nd, rfl⟩⟩)
        have hch := blk_put (cs' := #[.int .i64 0, .int .i64 0, .int .i64 0, .string (⟨#[]⟩ : ByteArray)]) (blk_put (cs' := #[.int .i64 0, .int .i64 0, .int .i64 0, .string (⟨#[]⟩ : ByteArray)]) (blk_put (cs' := #[.int .i64 0, .int .i64 0, .int .i64 0, .string (⟨#[]⟩ : ByteArray)]) (blk_put (cs' := #[.int .i64 0, .int .i64 0, .int .i64 0, .string (⟨#[]⟩ : ByteArray)]) (blk_far (blk_drewN (blk_far BG.out (p := ⟨k, 3, none⟩) n_gk (.string ⟨#[48]⟩)) nd) (p := ⟨b, 2, none⟩) n2_g (.int .i64 i)) 0 (.int .i64 0) rfl) 1 (.int .i64 0) rfl) 2 (.int .i64 0) rfl) 3 (.string (⟨#[]⟩ : ByteArray)) rfl
        refine bodyPost_ret (results_ct rfl _ _ g 31 #[.int .i64 0, .int .i64 0, .int .i64 0, .string (⟨#[]⟩ : ByteArray)] (0, 0) _ rfl hch Tryd.underlying31 rfl (by kernel_rfl)) rfl ?_
        rw [← HRR.out]
        exact ⟨Or.inr ⟨by show (42 : Int) ≠ 0; decide, rfl, CutAt.far (CutAt.far (CutAt.far (CutAt.far (CutAt.place (CutAt.drewN (CutAt.far HC.out n1_k 3 (.string ⟨#[48]⟩)) nd) i) n1_g 0 _) n1_g 1 _) n1_g 2 _) n1_g 3 _⟩, Moved.new (Moved.new (Moved.new (Moved.new (Moved.own (Moved.drewN (Moved.new HM.out s_k t_k 3 (.string ⟨#[48]⟩)) nd) 2 (.int .i64 i)) s_g t_g 0 _) s_g t_g 1 _) s_g t_g 2 _) s_g t_g 3 _⟩
  · have t1 : (X.toList == ([45, 48] : List UInt8)) = false := by rw [text_eq]; exact decide_eq_false a
    have ny : numB X = X := if_neg a
    rw [ny] at hR hFm
    clear a ny
    cases fb with
    | true =>
      rw [if_pos rfl] at hR
      have HRR := Lib.hid hR
      clear hR
      go_enter Tryd.func32, Tryd.ntmps32
      go_wp2_with ((with_reducible refine gate_dst (N := 2) rfl ?_); refine box_event rfl (N := 2) rfl (cs := #[.int .i64 0, .int .i64 0, .int .i64 0, .string (⟨#[]⟩ : ByteArray)]) (t := 31) ?hr ?_; (case hr => first | (go_simp; done) | (go_simp; rfl)); intro g hg w1 hbox hb1; go_must (have g_0 : w1.cell? ⟨g, 0, none⟩ = some (.int .i64 0) := (blk_cell hbox 0).trans rfl; have g_1 : w1.cell? ⟨g, 1, none⟩ = some (.int .i64 0) := (blk_cell hbox 1).trans rfl; have g_2 : w1.cell? ⟨g, 2, none⟩ = some (.int .i64 0) := (blk_cell hbox 2).trans rfl; have g_3 : w1.cell? ⟨g, 3, none⟩ = some (.string ⟨#[]⟩) := (blk_cell hbox 3).trans rfl; have g_f0 := blk_frozen hbox 0; have g_f1 := blk_frozen hbox 1; have g_f2 := blk_frozen hbox 2; have g_f3 := blk_frozen hbox 3; have HB_g := Lib.hid hbox; have H_w1 := Lib.hid (CutAt.below H.out hb1); have M_w1 := Lib.hid (Moved.trans (Moved.refl (b := b) (w := w)) (Moved.of_below (CutAt.lt H.out) hb1)); have n1_g : ¬ b = g := (by have := CutAt.lt H.out; omega); have n2_g : ¬ g = b := (fun e => n1_g e.symm); have s_g : w.heap.size ≤ g := (by have := M_w1.out.below.size; have := ((Moved.refl (b := b) (w := w))).below.size; simp at *; omega); have t_g : b ≤ g := (by have := CutAt.lt H.out; simp at *; omega); have k0_w1 := H_w1.out.c0; have k1_w1 := H_w1.out.c1; have k2_w1 := H_w1.out.c2; have kf_w1 := H_w1.out.fr 2; have lt_g : g < w1.heap.size := blk_lt hbox; clear hg hbox hb1))
      have hRun := fun W hW => run_exact (b := b) (pl := pl) (⟨#[43, 45, 46]⟩) (Nat.le_of_lt hi) hs W hW
      rw [run_num, HE.out] at hRun
      have lb_w1 := CutAt.lt H_w1.out
      go_region_with ((refine (hRun _ (by first | exact CutAt.drew H_w1.out | exact CutAt.alloc (CutAt.drew H_w1.out) _)).mono ?_; rintro e0 w9 ⟨rfl, hw9⟩; obtain rfl := hw9.symm))
      all_goals
        have hBk := blk_drew (blk_new w1 (.cells #[.int .i64 10, .int .i64 i, .int .i64 e, .string (⟨#[]⟩ : ByteArray)] 31))
        have hBg := blk_drew (blk_alloc HB_g.out (.cells #[.int .i64 10, .int .i64 i, .int .i64 e, .string (⟨#[]⟩ : ByteArray)] 31))
        have hC := CutAt.drew (CutAt.alloc H_w1.out (.cells #[.int .i64 10, .int .i64 i, .int .i64 e, .string (⟨#[]⟩ : ByteArray)] 31))
        have t_k : b ≤ w1.heap.size := Nat.le_of_lt lb_w1
        have hM := Moved.drew (Moved.alloc M_w1.out t_k (.cells #[.int .i64 10, .int .i64 i, .int .i64 e, .string (⟨#[]⟩ : ByteArray)] 31))
        have n_gk : ¬ g = w1.heap.size := by omega
        have n1_k : ¬ b = w1.heap.size := by omega
        have s_k : w.heap.size ≤ w1.heap.size := M_w1.out.below.size
        generalize hw3 : World.drew (w1.alloc (.cells #[.int .i64 10, .int .i64 i, .int .i64 e, .string (⟨#[]⟩ : ByteArray)] 31)) = w3 at hBk hBg hC hM ⊢
        generalize hkk : w1.heap.size = k at hBk n_gk n1_k s_k t_k ⊢
        have n_kg : ¬ k = g := fun e => n_gk e.symm
        have n2_k : ¬ k = b := fun e => n1_k e.symm
        clear hw3 hkk hRun lb_w1 g_0 g_f0 g_1 g_f1 g_2 g_f2 g_3 g_f3 k0_w1 k1_w1 k2_w1 kf_w1 lt_g
        have k3_0 : w3.cell? ⟨k, 0, none⟩ = some (.int .i64 10) := (blk_cell hBk 0).trans rfl
        have k3f_0 := blk_frozen hBk 0
        have g3_0 : w3.cell? ⟨g, 0, none⟩ = some (.int .i64 0) := (blk_cell hBg 0).trans rfl
        have g3f_0 := blk_frozen hBg 0
        have k3_1 : w3.cell? ⟨k, 1, none⟩ = some (.int .i64 i) := (blk_cell hBk 1).trans rfl
        have k3f_1 := blk_frozen hBk 1
        have g3_1 : w3.cell? ⟨g, 1, none⟩ = some (.int .i64 0) := (blk_cell hBg 1).trans rfl
        have g3f_1 := blk_frozen hBg 1
        have k3_2 : w3.cell? ⟨k, 2, none⟩ = some (.int .i64 e) := (blk_cell hBk 2).trans rfl
        have k3f_2 := blk_frozen hBk 2
        have g3_2 : w3.cell? ⟨g, 2, none⟩ = some (.int .i64 0) := (blk_cell hBg 2).trans rfl
        have g3f_2 := blk_frozen hBg 2
        have k3_3 : w3.cell? ⟨k, 3, none⟩ = some (.string (⟨#[]⟩ : ByteArray)) := (blk_cell hBk 3).trans rfl
        have k3f_3 := blk_frozen hBk 3
        have g3_3 : w3.cell? ⟨g, 3, none⟩ = some (.string ⟨#[]⟩) := (blk_cell hBg 3).trans rfl
        have g3f_3 := blk_frozen hBg 3
        have c3_0 := hC.c0
        have c3_1 := hC.c1
        have c3_2 := hC.c2
        have c3f := hC.fr 2
        have BK := Lib.hid hBk
        have BG := Lib.hid hBg
        have HC := Lib.hid hC
        have HM := Lib.hid hM
        clear hBk hBg hC hM
        go_wp2_with fail
        refine wp_region_still_tail 10 (by kernel_rfl) (by kernel_rfl) ?_
        simp only [List.take_succ_cons, List.take_zero, List.drop_succ_cons, List.drop_zero]
        repeat still_step
        refine wpStill_nil ?_
        change wpList _ _ _ _ _ w3.drew
        rw [HX.out]
        go_upto_region 3 with (fail)
        have hBk4 := blk_drew (blk_put (cs' := #[.int .i64 10, .int .i64 i, .int .i64 e, .string X]) BK.out 3 (.string X) rfl)
        have hBg4 := blk_drew (blk_far BG.out (p := ⟨k, 3, none⟩) n_gk (.string X))
        have hC4 := CutAt.drew (CutAt.far HC.out n1_k 3 (.string X))
        have hM4 := Moved.drew (Moved.new HM.out s_k t_k 3 (.string X))
        generalize hw4 : World.drew (w3.setCell ⟨k, 3, none⟩ (.string X)) = w4 at hBk4 hBg4 hC4 hM4 ⊢
        clear hw4 c3_0 c3_1 c3_2 c3f BK BG HC HM k3_0 k3f_0 g3_0 g3f_0 k3_1 k3f_1 g3_1 g3f_1 k3_2 k3f_2 g3_2 g3f_2 k3_3 k3f_3 g3_3 g3f_3
        have k4_0 : w4.cell? ⟨k, 0, none⟩ = some (.int .i64 10) := (blk_cell hBk4 0).trans rfl
        have k4f_0 := blk_frozen hBk4 0
        have g4_0 : w4.cell? ⟨g, 0, none⟩ = some (.int .i64 0) := (blk_cell hBg4 0).trans rfl
        have g4f_0 := blk_frozen hBg4 0
        have k4_1 : w4.cell? ⟨k, 1, none⟩ = some (.int .i64 i) := (blk_cell hBk4 1).trans rfl
        have k4f_1 := blk_frozen hBk4 1
        have g4_1 : w4.cell? ⟨g, 1, none⟩ = some (.int .i64 0) := (blk_cell hBg4 1).trans rfl
        have g4f_1 := blk_frozen hBg4 1
        have k4_2 : w4.cell? ⟨k, 2, none⟩ = some (.int .i64 e) := (blk_cell hBk4 2).trans rfl
        have k4f_2 := blk_frozen hBk4 2
        have g4_2 : w4.cell? ⟨g, 2, none⟩ = some (.int .i64 0) := (blk_cell hBg4 2).trans rfl
        have g4f_2 := blk_frozen hBg4 2
        have k4_3 : w4.cell? ⟨k, 3, none⟩ = some (.string X) := (blk_cell hBk4 3).trans rfl
        have k4f_3 := blk_frozen hBk4 3
        have g4_3 : w4.cell? ⟨g, 3, none⟩ = some (.string ⟨#[]⟩) := (blk_cell hBg4 3).trans rfl
        have g4f_3 := blk_frozen hBg4 3
        have c4_1 := hC4.c1
        have c4_2 := hC4.c2
        have c4f := hC4.fr 2
        have BK := Lib.hid hBk4
        have BG := Lib.hid hBg4
        have HC := Lib.hid hC4
        have HM := Lib.hid hM4
        clear hBk4 hBg4 hC4 hM4
        go_wp2_with (go_at_call 41; (with_reducible refine (hFm _).mono ?_); rintro e0 w9 ⟨rfl, ⟨nd, rfl⟩⟩)
        have hch := blk_put (cs' := #[.int .i64 10, .int .i64 i, .int .i64 e, .string X]) (blk_put (cs' := #[.int .i64 10, .int .i64 i, .int .i64 e, .string (⟨#[]⟩ : ByteArray)]) (blk_put (cs' := #[.int .i64 10, .int .i64 i, .int .i64 0, .string (⟨#[]⟩ : ByteArray)]) (blk_put (cs' := #[.int .i64 10, .int .i64 0, .int .i64 0, .string (⟨#[]⟩ : ByteArray)]) (blk_drewN (BG.out) nd) 0 (.int .i64 10) rfl) 1 (.int .i64 i) rfl) 2 (.int .i64 e) rfl) 3 (.string X) rfl
        refine bodyPost_ret (results_ct rfl _ _ g 31 #[.int .i64 10, .int .i64 i, .int .i64 e, .string X] (0, 0) _ rfl hch Tryd.underlying31 rfl (by kernel_rfl)) rfl ?_
        rw [← HRR.out]
        exact ⟨Or.inl ⟨rfl, rfl, CutAt.far (CutAt.far (CutAt.far (CutAt.far (CutAt.drewN (HC.out) nd) n1_g 0 _) n1_g 1 _) n1_g 2 _) n1_g 3 _⟩, Moved.new (Moved.new (Moved.new (Moved.new (Moved.drewN (HM.out) nd) s_g t_g 0 _) s_g t_g 1 _) s_g t_g 2 _) s_g t_g 3 _⟩
    | false =>
      rw [if_neg (by decide)] at hR
      have HRR := Lib.hid hR
      clear hR
      go_enter Tryd.func32, Tryd.ntmps32
      go_wp2_with ((with_reducible refine gate_dst (N := 2) rfl ?_); refine box_event rfl (N := 2) rfl (cs := #[.int .i64 0, .int .i64 0, .int .i64 0, .string (⟨#[]⟩ : ByteArray)]) (t := 31) ?hr ?_; (case hr => first | (go_simp; done) | (go_simp; rfl)); intro g hg w1 hbox hb1; go_must (have g_0 : w1.cell? ⟨g, 0, none⟩ = some (.int .i64 0) := (blk_cell hbox 0).trans rfl; have g_1 : w1.cell? ⟨g, 1, none⟩ = some (.int .i64 0) := (blk_cell hbox 1).trans rfl; have g_2 : w1.cell? ⟨g, 2, none⟩ = some (.int .i64 0) := (blk_cell hbox 2).trans rfl; have g_3 : w1.cell? ⟨g, 3, none⟩ = some (.string ⟨#[]⟩) := (blk_cell hbox 3).trans rfl; have g_f0 := blk_frozen hbox 0; have g_f1 := blk_frozen hbox 1; have g_f2 := blk_frozen hbox 2; have g_f3 := blk_frozen hbox 3; have HB_g := Lib.hid hbox; have H_w1 := Lib.hid (CutAt.below H.out hb1); have M_w1 := Lib.hid (Moved.trans (Moved.refl (b := b) (w := w)) (Moved.of_below (CutAt.lt H.out) hb1)); have n1_g : ¬ b = g := (by have := CutAt.lt H.out; omega); have n2_g : ¬ g = b := (fun e => n1_g e.symm); have s_g : w.heap.size ≤ g := (by have := M_w1.out.below.size; have := ((Moved.refl (b := b) (w := w))).below.size; simp at *; omega); have t_g : b ≤ g := (by have := CutAt.lt H.out; simp at *; omega); have k0_w1 := H_w1.out.c0; have k1_w1 := H_w1.out.c1; have k2_w1 := H_w1.out.c2; have kf_w1 := H_w1.out.fr 2; have lt_g : g < w1.heap.size := blk_lt hbox; clear hg hbox hb1))
      have hRun := fun W hW => run_exact (b := b) (pl := pl) (⟨#[43, 45, 46]⟩) (Nat.le_of_lt hi) hs W hW
      rw [run_num, HE.out] at hRun
      have lb_w1 := CutAt.lt H_w1.out
      go_region_with ((refine (hRun _ (by first | exact CutAt.drew H_w1.out | exact CutAt.alloc (CutAt.drew H_w1.out) _)).mono ?_; rintro e0 w9 ⟨rfl, hw9⟩; obtain rfl := hw9.symm))
      all_goals
        have hBk := blk_drew (blk_new w1 (.cells #[.int .i64 10, .int .i64 i, .int .i64 e, .string (⟨#[]⟩ : ByteArray)] 31))
        have hBg := blk_drew (blk_alloc HB_g.out (.cells #[.int .i64 10, .int .i64 i, .int .i64 e, .string (⟨#[]⟩ : ByteArray)] 31))
        have hC := CutAt.drew (CutAt.alloc H_w1.out (.cells #[.int .i64 10, .int .i64 i, .int .i64 e, .string (⟨#[]⟩ : ByteArray)] 31))
        have t_k : b ≤ w1.heap.size := Nat.le_of_lt lb_w1
        have hM := Moved.drew (Moved.alloc M_w1.out t_k (.cells #[.int .i64 10, .int .i64 i, .int .i64 e, .string (⟨#[]⟩ : ByteArray)] 31))
        have n_gk : ¬ g = w1.heap.size := by omega
        have n1_k : ¬ b = w1.heap.size := by omega
        have s_k : w.heap.size ≤ w1.heap.size := M_w1.out.below.size
        generalize hw3 : World.drew (w1.alloc (.cells #[.int .i64 10, .int .i64 i, .int .i64 e, .string (⟨#[]⟩ : ByteArray)] 31)) = w3 at hBk hBg hC hM ⊢
        generalize hkk : w1.heap.size = k at hBk n_gk n1_k s_k t_k ⊢
        have n_kg : ¬ k = g := fun e => n_gk e.symm
        have n2_k : ¬ k = b := fun e => n1_k e.symm
        clear hw3 hkk hRun lb_w1 g_0 g_f0 g_1 g_f1 g_2 g_f2 g_3 g_f3 k0_w1 k1_w1 k2_w1 kf_w1 lt_g
        have k3_0 : w3.cell? ⟨k, 0, none⟩ = some (.int .i64 10) := (blk_cell hBk 0).trans rfl
        have k3f_0 := blk_frozen hBk 0
        have g3_0 : w3.cell? ⟨g, 0, none⟩ = some (.int .i64 0) := (blk_cell hBg 0).trans rfl
        have g3f_0 := blk_frozen hBg 0
        have k3_1 : w3.cell? ⟨k, 1, none⟩ = some (.int .i64 i) := (blk_cell hBk 1).trans rfl
        have k3f_1 := blk_frozen hBk 1
        have g3_1 : w3.cell? ⟨g, 1, none⟩ = some (.int .i64 0) := (blk_cell hBg 1).trans rfl
        have g3f_1 := blk_frozen hBg 1
        have k3_2 : w3.cell? ⟨k, 2, none⟩ = some (.int .i64 e) := (blk_cell hBk 2).trans rfl
        have k3f_2 := blk_frozen hBk 2
        have g3_2 : w3.cell? ⟨g, 2, none⟩ = some (.int .i64 0) := (blk_cell hBg 2).trans rfl
        have g3f_2 := blk_frozen hBg 2
        have k3_3 : w3.cell? ⟨k, 3, none⟩ = some (.string (⟨#[]⟩ : ByteArray)) := (blk_cell hBk 3).trans rfl
        have k3f_3 := blk_frozen hBk 3
        have g3_3 : w3.cell? ⟨g, 3, none⟩ = some (.string ⟨#[]⟩) := (blk_cell hBg 3).trans rfl
        have g3f_3 := blk_frozen hBg 3
        have c3_0 := hC.c0
        have c3_1 := hC.c1
        have c3_2 := hC.c2
        have c3f := hC.fr 2
        have BK := Lib.hid hBk
        have BG := Lib.hid hBg
        have HC := Lib.hid hC
        have HM := Lib.hid hM
        clear hBk hBg hC hM
        go_wp2_with fail
        refine wp_region_still_tail 10 (by kernel_rfl) (by kernel_rfl) ?_
        simp only [List.take_succ_cons, List.take_zero, List.drop_succ_cons, List.drop_zero]
        repeat still_step
        refine wpStill_nil ?_
        change wpList _ _ _ _ _ w3.drew
        rw [HX.out]
        go_upto_region 3 with (fail)
        have hBk4 := blk_drew (blk_put (cs' := #[.int .i64 10, .int .i64 i, .int .i64 e, .string X]) BK.out 3 (.string X) rfl)
        have hBg4 := blk_drew (blk_far BG.out (p := ⟨k, 3, none⟩) n_gk (.string X))
        have hC4 := CutAt.drew (CutAt.far HC.out n1_k 3 (.string X))
        have hM4 := Moved.drew (Moved.new HM.out s_k t_k 3 (.string X))
        generalize hw4 : World.drew (w3.setCell ⟨k, 3, none⟩ (.string X)) = w4 at hBk4 hBg4 hC4 hM4 ⊢
        clear hw4 c3_0 c3_1 c3_2 c3f BK BG HC HM k3_0 k3f_0 g3_0 g3f_0 k3_1 k3f_1 g3_1 g3f_1 k3_2 k3f_2 g3_2 g3f_2 k3_3 k3f_3 g3_3 g3f_3
        have k4_0 : w4.cell? ⟨k, 0, none⟩ = some (.int .i64 10) := (blk_cell hBk4 0).trans rfl
        have k4f_0 := blk_frozen hBk4 0
        have g4_0 : w4.cell? ⟨g, 0, none⟩ = some (.int .i64 0) := (blk_cell hBg4 0).trans rfl
        have g4f_0 := blk_frozen hBg4 0
        have k4_1 : w4.cell? ⟨k, 1, none⟩ = some (.int .i64 i) := (blk_cell hBk4 1).trans rfl
        have k4f_1 := blk_frozen hBk4 1
        have g4_1 : w4.cell? ⟨g, 1, none⟩ = some (.int .i64 0) := (blk_cell hBg4 1).trans rfl
        have g4f_1 := blk_frozen hBg4 1
        have k4_2 : w4.cell? ⟨k, 2, none⟩ = some (.int .i64 e) := (blk_cell hBk4 2).trans rfl
        have k4f_2 := blk_frozen hBk4 2
        have g4_2 : w4.cell? ⟨g, 2, none⟩ = some (.int .i64 0) := (blk_cell hBg4 2).trans rfl
        have g4f_2 := blk_frozen hBg4 2
        have k4_3 : w4.cell? ⟨k, 3, none⟩ = some (.string X) := (blk_cell hBk4 3).trans rfl
        have k4f_3 := blk_frozen hBk4 3
        have g4_3 : w4.cell? ⟨g, 3, none⟩ = some (.string ⟨#[]⟩) := (blk_cell hBg4 3).trans rfl
        have g4f_3 := blk_frozen hBg4 3
        have c4_1 := hC4.c1
        have c4_2 := hC4.c2
        have c4f := hC4.fr 2
        have BK := Lib.hid hBk4
        have BG := Lib.hid hBg4
        have HC := Lib.hid hC4
        have HM := Lib.hid hM4
        clear hBk4 hBg4 hC4 hM4
        go_wp2_with (go_at_call 41; (with_reducible refine (hFm _).mono ?_); rintro e0 w9 ⟨rfl, ⟨nd, rfl⟩⟩)
        have hch := blk_put (cs' := #[.int .i64 0, .int .i64 0, .int .i64 0, .string (⟨#[]⟩ : ByteArray)]) (blk_put (cs' := #[.int .i64 0, .int .i64 0, .int .i64 0, .string (⟨#[]⟩ : ByteArray)]) (blk_put (cs' := #[.int .i64 0, .int .i64 0, .int .i64 0, .string (⟨#[]⟩ : ByteArray)]) (blk_put (cs' := #[.int .i64 0, .int .i64 0, .int .i64 0, .string (⟨#[]⟩ : ByteArray)]) (blk_far (blk_drewN (BG.out) nd) (p := ⟨b, 2, none⟩) n2_g (.int .i64 i)) 0 (.int .i64 0) rfl) 1 (.int .i64 0) rfl) 2 (.int .i64 0) rfl) 3 (.string (⟨#[]⟩ : ByteArray)) rfl
        refine bodyPost_ret (results_ct rfl _ _ g 31 #[.int .i64 0, .int .i64 0, .int .i64 0, .string (⟨#[]⟩ : ByteArray)] (0, 0) _ rfl hch Tryd.underlying31 rfl (by kernel_rfl)) rfl ?_
        rw [← HRR.out]
        exact ⟨Or.inr ⟨by show (42 : Int) ≠ 0; decide, rfl, CutAt.far (CutAt.far (CutAt.far (CutAt.far (CutAt.place (CutAt.drewN (HC.out) nd) i) n1_g 0 _) n1_g 1 _) n1_g 2 _) n1_g 3 _⟩, Moved.new (Moved.new (Moved.new (Moved.new (Moved.own (Moved.drewN (HM.out) nd) 2 (.int .i64 i)) s_g t_g 0 _) s_g t_g 1 _) s_g t_g 2 _) s_g t_g 3 _⟩

end Go.Proofs.YtkfcoikfhpabmaaDoor.U
