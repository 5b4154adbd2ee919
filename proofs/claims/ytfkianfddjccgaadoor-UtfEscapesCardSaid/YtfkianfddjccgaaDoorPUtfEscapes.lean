/- Plain law: a rune's escapes say it, wherever they stand. -/
import Derived.Test.YtfkianfddjccgaaDoorUL3x8
import Derived.Test.YtfkianfddjccgaaDoorTextZ
import Derived.Test.YtfkianfddjccgaaDoorUq
namespace Go.Proofs.YtfkianfddjccgaaDoor.U
open Go.RowKit Go.Proofs.YtfkianfddjccgaaDoorW.PrintWords
set_option linter.unusedSimpArgs false

/-- a digit to the base 16 -/
def hexC (d : Int) : UInt8 := if d < 10 then (48 + d.toNat).toUInt8 else (87 + d.toNat).toUInt8
theorem hexC_all : ∀ d : Fin 16, bt (⟨#[48, 49, 50, 51, 52, 53, 54, 55, 56, 57, 97, 98, 99, 100, 101, 102]⟩ : ByteArray) (d.val : Int) = ((hexC (d.val : Int)).toNat : Int) ∧ digitZ ((hexC (d.val : Int)).toNat : Int) = (d.val : Int) := by decide +kernel
theorem hexC_eq (d : Int) (h0 : 0 ≤ d) (h1 : d < 16) : bt (⟨#[48, 49, 50, 51, 52, 53, 54, 55, 56, 57, 97, 98, 99, 100, 101, 102]⟩ : ByteArray) d = ((hexC d).toNat : Int) ∧ digitZ ((hexC d).toNat : Int) = d := by
  obtain ⟨n, rfl⟩ : ∃ n : Nat, d = n := ⟨d.toNat, by omega⟩
  exact hexC_all ⟨n, by omega⟩

/-- an escape by number -/
def unitB (n : Int) : List UInt8 := [92, 117, hexC (n / 4096 % 16), hexC (n / 256 % 16), hexC (n / 16 % 16), hexC (n % 16)]
theorem nums_bytes (l : List UInt8) : strOfNums (l.map fun b => (b.toNat : Int)) = ⟨l.toArray⟩ := by
  unfold strOfNums
  congr 2
  rw [List.map_map]
  refine (List.map_congr_left fun b _ => ?_).trans (List.map_id l)
  show UInt8.ofNat ((b.toNat : Int).toNat) = b
  simp
theorem and15 (x : Int) (h0 : 0 ≤ x) (h1 : x < 2147483648) : Go.bits .and .i32 x 15 = x % 16 := bits_mask .i32 31 (by decide) wraps_i32 4 (by decide) x h0 h1
theorem and1023 (x : Int) (h0 : 0 ≤ x) (h1 : x < 2147483648) : Go.bits .and .i32 x 1023 = x % 1024 := bits_mask .i32 31 (by decide) wraps_i32 10 (by decide) x h0 h1
theorem unit_eq (n : Int) (h0 : 0 ≤ n) (h1 : n < 65536) : utf_unit.f n = some ⟨(unitB n).toArray⟩ := by
  unfold utf_unit.f
  rw [and15 (n / 4096) (by omega) (by omega), and15 (n / 256) (by omega) (by omega), and15 (n / 16) (by omega) (by omega), and15 n (by omega) (by omega)]
  rw [if_pos (by omega), if_pos (by omega), if_pos (by omega), if_pos (by omega), if_pos (by omega), if_pos (by omega), if_pos (by omega), if_pos (by omega)]
  rw [(hexC_eq (n / 4096 % 16) (by omega) (by omega)).1, (hexC_eq (n / 256 % 16) (by omega) (by omega)).1, (hexC_eq (n / 16 % 16) (by omega) (by omega)).1, (hexC_eq (n % 16) (by omega) (by omega)).1, Option.bind_some]
  have e := nums_bytes [hexC (n / 4096 % 16), hexC (n / 256 % 16), hexC (n / 16 % 16), hexC (n % 16)]
  simp only [List.map_cons, List.map_nil] at e
  rw [e, if_pos (by show 2 + 4 ≤ _; decide)]
  congr 1

theorem unit_num (t : ByteArray) (n : Int) (l : List UInt8) (h0 : 0 ≤ n) (h1 : n < 65536) (ht : t.data.toList = unitB n ++ l) : numberedZ t = n := by
  have d1 := (hexC_eq (n / 4096 % 16) (by omega) (by omega)).2
  have d2 := (hexC_eq (n / 256 % 16) (by omega) (by omega)).2
  have d3 := (hexC_eq (n / 16 % 16) (by omega) (by omega)).2
  have d4 := (hexC_eq (n % 16) (by omega) (by omega)).2
  exact escT_unit t _ _ _ _ l n ht (by omega) (by omega) (by omega) (by omega) (by rw [d1, d2, d3, d4]; omega)

/-- a rune by escapes alone -/
def escB (r : Int) : List UInt8 := if r < 65536 then unitB r else unitB (55296 + (r - 65536) / 1024) ++ unitB (56320 + (r - 65536) % 1024)
theorem escaped_eq (r : Int) (k : Nat) (hk : 1 ≤ k) : utf_Escaped.f k r = some ⟨(escB (properZ r)).toArray⟩ := by
  obtain ⟨k, rfl⟩ : ∃ m, k = m + 1 := ⟨k - 1, by omega⟩
  have hp := properZ_proper r
  unfold Utf.Proper at hp
  unfold utf_Escaped.f
  rw [proper_eq, Option.bind_some]
  obtain ⟨q, hq⟩ : ∃ q, properZ r = q := ⟨_, rfl⟩
  rw [hq] at hp ⊢
  unfold escB
  by_cases c : q < 65536
  · rw [if_pos c, if_pos c, unit_eq q (by omega) c]
    rfl
  · have w1 : wrap32 (q - 65536) = q - 65536 := by unfold wrap32; omega
    have w2 : wrap32 (55296 + (q - 65536) / 1024) = 55296 + (q - 65536) / 1024 := by unfold wrap32; omega
    have w3 : wrap32 (56320 + (q - 65536) % 1024) = 56320 + (q - 65536) % 1024 := by unfold wrap32; omega
    rw [if_neg c, if_neg c, w1, and1023 (q - 65536) (by omega) (by omega), w2, w3, unit_eq _ (by omega) (by omega), Option.bind_some, unit_eq _ (by omega) (by omega), Option.bind_some, if_pos (by show 6 + 6 ≤ _; decide)]
    congr 1
theorem escB_length (r : Int) : (escB r).length ≤ 12 := by
  unfold escB unitB
  split <;> simp

theorem escT_rune (t : ByteArray) (r : Int) (l : List UInt8) (hr : Utf.Proper r) (ht : t.data.toList = escB r ++ l) : escT t = (r, ((escB r).length : Int), 0) := by
  have hp := hr
  unfold Utf.Proper at hp
  by_cases c : r < 65536
  · have e : escB r = unitB r := if_pos c
    rw [e] at ht ⊢
    exact escT_num t r (unit_num t r l (by omega) c ht) (by omega) (by omega)
  · have e : escB r = unitB (55296 + (r - 65536) / 1024) ++ unitB (56320 + (r - 65536) % 1024) := if_neg c
    rw [e] at ht ⊢
    rw [List.append_assoc] at ht
    have n1 := unit_num t _ _ (by omega) (by omega) ht
    have hd : (t.extract 6 t.size).data.toList = unitB (56320 + (r - 65536) % 1024) ++ l := by
      rw [extract_drop, ht]
      rfl
    have n2 := unit_num (t.extract 6 t.size) _ _ (by omega) (by omega) hd
    unfold escT
    rw [n1, n2]
    unfold escV
    rw [if_neg (by omega), if_neg (by omega), if_neg (by omega), if_pos (by omega)]
    refine Prod.ext ?_ rfl
    show 65536 + (55296 + (r - 65536) / 1024 - 55296) * 1024 + (56320 + (r - 65536) % 1024 - 56320) = r
    omega

theorem pure_UtfEscapes (a0 : Int) (a1 a2 : ByteArray) (h : (Lit.int .i32 a0).wf = true) (h1 : a1.size ≤ 140737488351232) (h2 : a2.size ≤ 140737488351232) : ∃ k, hallmarklaw02_UtfEscapes.f k a0 a1 a2 = some true := by
  refine ⟨10, ?_⟩
  have hp := properZ_proper a0
  have hl := escB_length (properZ a0)
  obtain ⟨x, hx⟩ : ∃ x : ByteArray, (⟨(escB (properZ a0)).toArray⟩ : ByteArray) = x := ⟨_, rfl⟩
  have hxd : x.data.toList = escB (properZ a0) := by rw [← hx]
  have hxs : x.size = (escB (properZ a0)).length := by rw [Lib.size_eq, hxd]
  have e1 := escaped_eq a0 10 (by omega)
  rw [hx] at e1
  have hz : ((a1 ++ x) ++ a2).size = a1.size + x.size + a2.size := by rw [ByteArray.size_append, ByteArray.size_append]
  have hd : ((a1 ++ x) ++ a2).data.toList.drop a1.size = escB (properZ a0) ++ a2.data.toList := by
    have : ((a1 ++ x) ++ a2).data.toList = a1.data.toList ++ (escB (properZ a0) ++ a2.data.toList) := by
      rw [ByteArray.data_append, Array.toList_append, ByteArray.data_append, Array.toList_append, hxd, List.append_assoc]
    rw [this, Lib.size_eq, List.drop_left]
  have he := escT_rune _ (properZ a0) a2.data.toList hp ((extract_drop _ _).trans hd)
  have hx1 : 1 ≤ x.size := by
    rw [hxs]
    unfold escB unitB
    split <;> simp
  have e2 : utf_Escape.f ((a1 ++ x) ++ a2) (a1.size : Int) = some (properZ a0, (a1.size : Int) + (x.size : Int), 0) := by
    unfold utf_Escape.f
    rw [if_pos (by omega), if_neg (by omega), Int.toNat_natCast, he, hxs]
  have e3 : utf_Text.f [a0] = some (textZ [a0]) := if_pos (by simp)
  have ht := textZ_size [a0]
  have e4 : utf_Runes.f (textZ [a0]) = some [properZ a0] := by
    unfold utf_Runes.f
    rw [if_pos (by simp only [List.length_cons, List.length_nil] at ht; omega), textZ_runes]
    rfl
  have hlen : (([properZ a0].length : Nat) : Int) = 1 := rfl
  have hpos : (0 : Int) < (([properZ a0].length : Nat) : Int) := by rw [hlen]; decide
  unfold hallmarklaw02_UtfEscapes.f
  rw [e1, Option.bind_some, if_pos (by omega), if_pos (by omega), e2, Option.bind_some, e3, Option.bind_some, e4, Option.bind_some, fixed_at 10 (by omega), Option.bind_some, if_pos rfl, if_pos hlen, if_pos hpos]
  have hr : rd [properZ a0] 0 = properZ a0 := rfl
  dsimp only
  rw [hr, if_pos rfl, if_pos rfl]
  rfl

end Go.Proofs.YtfkianfddjccgaaDoor.U
