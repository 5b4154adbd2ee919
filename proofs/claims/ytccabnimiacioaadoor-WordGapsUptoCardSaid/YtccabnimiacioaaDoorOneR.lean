/- What one token leaves. -/
import Derived.Test.YtccabnimiacioaaDoorEPiece
namespace Go.Proofs.YtccabnimiacioaaDoor.U
open Go.RowKit Go.Proofs.YtccabnimiacioaaDoorW.PrintWords

/-- what one token leaves: the error, the place (of the fault, or behind the token), the kind, what it says, what is open -/
structure OneR where
  e : Int
  pos : Nat
  kind : Int
  text : ByteArray
  op : List Int
def OneEnd (B b : Nat) (s : ByteArray) (i : Nat) (toks : List Tok) (op : List Int) (r : OneR) (w' : World) : Prop :=
  (r.e = 0 ∧ ∃ vt vo, Sc B b s r.pos (toks ++ [⟨r.kind, i, r.pos, r.text⟩]) r.op 0 0 vt vo w') ∨ (r.e ≠ 0 ∧ ∃ vt vo, Sc B b s i toks op r.e r.pos vt vo w')
/-- a piece as a token -/
def pieceR (last more : Int) (opL opM : List Int) (r : Int × Nat × Bool × List UInt8) : OneR := ⟨r.1, r.2.1, if r.2.2.1 = true then last else more, ⟨r.2.2.2.toArray⟩, if r.2.2.1 = true then opL else opM⟩
theorem PieceEnd.one {B b : Nat} {s : ByteArray} {i : Nat} {toks : List Tok} {op : List Int} {vt vo : Value} {last more : Int} {opL opM : List Int} {r : Int × Nat × Bool × List UInt8} {w' : World} (h : PieceEnd B b s i toks op vt vo last more opL opM r w') : OneEnd B b s i toks op (pieceR last more opL opM r) w' := by
  rcases h with ⟨h1, vt', vo', h2⟩ | ⟨h1, h2⟩
  · exact Or.inl ⟨h1, vt', vo', h2⟩
  · exact Or.inr ⟨h1, vt, vo, h2⟩

theorem Sc.of_heap {B b : Nat} {s : ByteArray} {at_ : Int} {toks : List Tok} {op : List Int} {e pl : Int} {vt vo : Value} {W W1 : World} (he : W1.heap = W.heap) (h : Sc B b s at_ toks op e pl vt vo W) : Sc B b s at_ toks op e pl vt vo W1 where
  blk := by rw [he]; exact h.blk
  tok := own_move h.tok fun k _ => by rw [he]
  opn := own_move h.opn fun k _ => by rw [he]
  low := h.low

end Go.Proofs.YtccabnimiacioaaDoor.U
