/- The parser inside brackets (one word ahead, one mark open, a closing bracket where the words ended, and no less fuel): the same filter but for places, or too many parts nested. -/
import Derived.Test.YthlmhnlfcnpocaaDoorSynAll
namespace Go.Proofs.YthlmhnlfcnpocaaDoor.U
set_option linter.unusedVariables false
set_option linter.unusedSimpArgs false
set_option linter.unusedSectionVars false

mutual
/-- the same filter but for places -/
inductive Ali : SN → SN → Prop
  | mk {op a b : Int} {t : ByteArray} {k : Int} {n v : ByteArray} {ns : List ByteArray} {l m : List SN} : AliL l m → Ali (.mk op a t k n v ns l) (.mk op b t k n v ns m)
inductive AliL : List SN → List SN → Prop
  | nil : AliL [] []
  | cons {x y : SN} {l m : List SN} : Ali x y → AliL l m → AliL (x :: l) (y :: m)
end
theorem AliL.append {l m : List SN} (h : AliL l m) : ∀ {l' m' : List SN}, AliL l' m' → AliL (l ++ l') (m ++ m') := by
  match l, m, h with
  | [], [], _ => intro l' m' g; exact g
  | x :: l, y :: m, .cons h1 h2 => intro l' m' g; exact .cons h1 (AliL.append h2 g)
theorem AliL.one {x y : SN} (h : Ali x y) : AliL [x] [y] := .cons h .nil
theorem AliL.two {x y x' y' : SN} (h : Ali x y) (g : Ali x' y') : AliL [x, x'] [y, y'] := .cons h (.cons g .nil)
theorem AliL.three {x y x' y' x2 y2 : SN} (h : Ali x y) (g : Ali x' y') (k : Ali x2 y2) : AliL [x, x', x2] [y, y', y2] := .cons h (.cons g (.cons k .nil))
theorem Ali.txt (t : ByteArray) (a b : Int) : Ali (txt t a) (txt t b) := .mk .nil
theorem Ali.zero : Ali .zero .zero := .mk .nil
theorem Ali.nd {op a b : Int} {l m : List SN} (h : AliL l m) : Ali (nd op a l) (nd op b m) := .mk h
theorem Ali.ndT {op a b : Int} {t : ByteArray} {l m : List SN} (h : AliL l m) : Ali (ndT op a t l) (ndT op b t m) := .mk h
inductive AliC : PC → PC → Prop
  | pipe : AliC .pipe .pipe
  | unary : AliC .unary .unary
  | post : AliC .post .post
  | climb {x y : SN} {b : Int} : Ali x y → AliC (.climb x b) (.climb y b)
  | branch {a b : Int} : AliC (.branch a) (.branch b)

/-- the words within brackets -/
structure Wd (ws ws' : List Tok) : Prop where
  kind : ∀ i, i < ws.length → kindZ ws' (i + 1) = kindZ ws i
  said : ∀ i, i < ws.length → saidZ ws' (i + 1) = saidZ ws i
  endk : kindZ ws' (ws.length + 1) = 10
  ends : saidZ ws' (ws.length + 1) = (⟨#[41]⟩ : ByteArray)

theorem kindZ_end {ws : List Tok} : kindZ ws ws.length = 0 := by unfold kindZ; rw [dif_neg (by omega)]
theorem is_end {ws : List Tok} (t : ByteArray) : isZ ws ws.length t = false := by unfold isZ; rw [kindZ_end]; rfl
theorem Wd.is {ws ws' : List Tok} (W : Wd ws ws') (i : Nat) (hi : i ≤ ws.length) (t : ByteArray) (ht : t ≠ (⟨#[41]⟩ : ByteArray)) : isZ ws' (i + 1) t = isZ ws i t := by
  rcases Nat.lt_or_ge i ws.length with h | h
  · unfold isZ; rw [W.kind i h, W.said i h]
  · have e : i = ws.length := by omega
    rw [e, is_end, isZ, W.endk, W.ends]
    have : decide (((⟨#[41]⟩ : ByteArray) : ByteArray) = t) = false := decide_eq_false (fun h => ht h.symm)
    rw [this]; rfl
theorem Wd.kd {ws ws' : List Tok} (W : Wd ws ws') (i : Nat) (hi : i ≤ ws.length) (k : Int) (h0 : k ≠ 0) (h10 : k ≠ 10) : (kindZ ws' (i + 1) = k) = (kindZ ws i = k) := by
  rcases Nat.lt_or_ge i ws.length with h | h
  · rw [W.kind i h]
  · have e : i = ws.length := by omega
    rw [e, kindZ_end, W.endk]; exact propext ⟨fun h => absurd h.symm h10, fun h => absurd h.symm h0⟩

def Sim (n : Nat) {α : Type} (R : α → α → Prop) (x x' : PR α) : Prop :=
  ∀ a j p, x = some (.ok (a, j, p)) → (∃ q, x' = some (.error (172, q))) ∨ (j ≤ n ∧ ∃ a', x' = some (.ok (a', j + 1, p + 1)) ∧ R a a')
theorem Sim.bind {n : Nat} {α β : Type} {R : α → α → Prop} {R2 : β → β → Prop} {x x' : PR α} {f f' : α → Nat → Int → PR β} (h : Sim n R x x') (g : ∀ a a' j p, j ≤ n → R a a' → Sim n R2 (f a j p) (f' a' (j + 1) (p + 1))) : Sim n R2 (x.andThen f) (x'.andThen f') := by
  intro b j p hx
  match x, h, hx with
  | some (.ok (a, i, o)), h, hx =>
    rcases h a i o rfl with ⟨q, e⟩ | ⟨h1, a', e, hr⟩
    · subst e; exact Or.inl ⟨q, rfl⟩
    · subst e; exact g a a' i o h1 hr b j p hx
  | none, _, hx => cases hx
  | some (.error e), _, hx => cases hx
theorem Sim.ok {n : Nat} {α : Type} {R : α → α → Prop} {a a' : α} {j : Nat} {p p' : Int} (h : j ≤ n) (hp : p' = p + 1) (hr : R a a') : Sim n R (.ok a j p : PR α) (.ok a' (j + 1) p' : PR α) := by
  intro b i q e
  cases e
  exact Or.inr ⟨h, a', by rw [hp]; rfl, hr⟩
theorem Sim.err {n : Nat} {α : Type} {R : α → α → Prop} {e a : Int} {x : PR α} : Sim n R (.err e a : PR α) x := by
  intro b i q h; cases h
theorem Sim.fail {ws : List Tok} {en : Int} {n : Nat} {α : Type} {R : α → α → Prop} {i : Nat} {x : PR α} : Sim n R (failZ ws en i : PR α) x := by
  unfold failZ; split <;> exact Sim.err
theorem Sim.ite {n : Nat} {α : Type} {R : α → α → Prop} {p p' : Prop} [Decidable p] [Decidable p'] {x y x' y' : PR α} (e : p' = p) (h : p → Sim n R x x') (g : ¬ p → Sim n R y y') : Sim n R (if p then x else y) (if p' then x' else y') := by
  by_cases a : p
  · rw [if_pos a, if_pos (e ▸ a)]; exact h a
  · rw [if_neg a, if_neg (e ▸ a)]; exact g a

def AnyR {α : Type} (a b : α) : Prop := True
section
variable {ws ws' : List Tok} {en en' : Int} (W : Wd ws ws')
include W
theorem want_sim {t : ByteArray} (ht : t ≠ (⟨#[41]⟩ : ByteArray)) (i : Nat) (o : Int) (hi : i ≤ ws.length) : Sim ws.length Eq (wantZ ws en t i o) (wantZ ws' en' t (i + 1) (o + 1)) := by
  unfold wantZ; rw [W.is i hi t ht]
  split
  · rename_i g; exact Sim.ok (is_lt g) rfl rfl
  · exact Sim.fail
/-- a closing bracket within: it is there, for the words' end says no -/
theorem wantc_sim (t : ByteArray) (i : Nat) (o : Int) (hi : i ≤ ws.length) : Sim ws.length Eq (wantZ ws en t i o) (wantZ ws' en' t (i + 1) (o + 1)) := by
  unfold wantZ
  by_cases g : isZ ws i t = true
  · have h := is_lt g
    have g' : isZ ws' (i + 1) t = true := by unfold isZ; rw [W.kind i h, W.said i h]; exact g
    rw [if_pos g, if_pos g']; exact Sim.ok h rfl rfl
  · rw [if_neg g]; exact Sim.fail
theorem name_sim (k : Int) (h0 : k ≠ 0) (h10 : k ≠ 10) (i : Nat) (o : Int) (hi : i ≤ ws.length) : Sim ws.length Eq (nameZ ws en k i o) (nameZ ws' en' k (i + 1) (o + 1)) := by
  unfold nameZ
  refine Sim.ite (W.kd i hi k h0 h10) (fun g => ?_) (fun _ => Sim.fail)
  have h : i < ws.length := kind_lt (by rw [g]; exact h0)
  exact Sim.ok h rfl (W.said i h).symm
omit W in
theorem opens_sim (i : Nat) (o : Int) (hi : i < ws.length) : Sim ws.length Eq (opensZ ws en i o) (opensZ ws' en' (i + 1) (o + 1)) := by
  unfold opensZ
  by_cases g : o = 64
  · rw [if_pos g]; exact Sim.err
  · rw [if_neg g]
    by_cases g' : o + 1 = 64
    · rw [if_pos g']; intro a j p _; exact Or.inl ⟨_, rfl⟩
    · rw [if_neg g']; exact Sim.ok hi rfl rfl
theorem closes_sim (t : ByteArray) (i : Nat) (o : Int) (hi : i ≤ ws.length) : Sim ws.length Eq (closesZ ws en t i o) (closesZ ws' en' t (i + 1) (o + 1)) := by
  unfold closesZ; exact (wantc_sim W t i o hi).bind fun a a' j p hj _ => Sim.ok hj (by omega) rfl

def GoodS (ws : List Tok) (rc rc' : PC → Nat → Int → PR SN) : Prop :=
  ∀ c c' i o, i ≤ ws.length → AliC c c' → Sim ws.length Ali (rc c i o) (rc' c' (i + 1) (o + 1))
variable {rc rc' : PC → Nat → Int → PR SN} (H : GoodS ws rc rc')
include H
theorem piped_sim {l l' : SN} (hl : Ali l l') (i : Nat) (o : Int) (hi : i ≤ ws.length) : Sim ws.length Ali (pipedZ ws en rc l i o) (pipedZ ws' en' rc' l' (i + 1) (o + 1)) := by
  unfold pipedZ; rw [W.is i hi _ (by decide)]
  refine Sim.ite rfl (fun g => ?_) (fun _ => Sim.ok hi rfl hl)
  exact (H _ _ _ _ (is_lt g) .pipe).bind fun a a' j p hj hr => Sim.ok hj rfl (.nd (.two hl hr))
omit H in
theorem param_sim (i : Nat) (o : Int) (hi : i ≤ ws.length) : Sim ws.length Eq (paramZ ws en i o) (paramZ ws' en' (i + 1) (o + 1)) := by
  unfold paramZ
  refine Sim.ite (W.kd i hi 3 (by decide) (by decide)) (fun g => ?_) (fun _ => name_sim W 1 (by decide) (by decide) i o hi)
  exact (name_sim W 3 (by decide) (by decide) i o hi).bind fun a a' j p hj hr => Sim.ok hj rfl (by rw [hr])
omit H in
theorem params_sim : ∀ (k k' : Nat) (l : List ByteArray) (i : Nat) (o : Int), k ≤ k' → i ≤ ws.length → Sim ws.length Eq (paramsZ ws en k l i o) (paramsZ ws' en' k' l (i + 1) (o + 1))
  | 0, _, _, _, _, _, _ => by intro a j p h; cases h
  | k + 1, 0, _, _, _, h, _ => by omega
  | k + 1, k' + 1, l, i, o, h, hi => by
    unfold paramsZ; rw [W.is i hi _ (by decide)]
    refine Sim.ite rfl (fun g => ?_) (fun _ => Sim.ok hi rfl rfl)
    refine (param_sim W (i + 1) o (is_lt g)).bind fun a a' j p hj hr => ?_
    subst hr; exact params_sim k k' _ j p (by omega) hj
theorem def_sim (k k' i : Nat) (o : Int) (hk : k ≤ k') (hi : i < ws.length) : Sim ws.length Ali (defZ ws en rc k i o) (defZ ws' en' rc' k' (i + 1) (o + 1)) := by
  unfold defZ
  refine (opens_sim i o hi).bind fun _ _ j p hj _ => ?_
  refine (name_sim W 1 (by decide) (by decide) j p hj).bind fun nm nm' j p hj hr => ?_
  subst hr
  refine Sim.bind (R := Eq) ?_ fun l l' j p hj hr => ?_
  · rw [W.is j hj _ (by decide)]
    refine Sim.ite rfl (fun g => ?_) (fun _ => Sim.ok hj rfl rfl)
    refine (opens_sim j p (is_lt g)).bind fun _ _ j p hj _ => ?_
    refine (param_sim W j p hj).bind fun t t' j p hj hr => ?_
    subst hr
    refine (params_sim W k k' _ j p hk hj).bind fun l l' j p hj hr => ?_
    subst hr
    exact (closes_sim W _ j p hj).bind fun _ _ j p hj _ => Sim.ok hj rfl rfl
  · subst hr
    refine (want_sim W (by decide) j p hj).bind fun _ _ j p hj _ => ?_
    refine (H _ _ _ _ hj .pipe).bind fun b b' j p hj hb => ?_
    refine (closes_sim W _ j p hj).bind fun _ _ j p hj _ => ?_
    exact (H _ _ _ _ hj .pipe).bind fun c c' j p hj hc => Sim.ok hj rfl (.mk (.two hb hc))
theorem pipe_sim (k k' i : Nat) (o : Int) (hk : k ≤ k') (hi : i ≤ ws.length) : Sim ws.length Ali (pipeZ ws en rc k i o) (pipeZ ws' en' rc' k' (i + 1) (o + 1)) := by
  unfold pipeZ
  rw [W.is i hi _ (by decide), W.is i hi _ (by decide), W.is i hi _ (by decide)]
  refine Sim.ite rfl (fun g => def_sim W H k k' i o hk (is_lt g)) fun _ => ?_
  refine Sim.ite rfl (fun g => ?_) fun _ => ?_
  · refine (name_sim W 3 (by decide) (by decide) _ _ (is_lt g)).bind fun nm nm' j p hj hr => ?_
    subst hr
    refine (want_sim W (by decide) j p hj).bind fun _ _ j p hj _ => ?_
    exact (H _ _ _ _ hj .pipe).bind fun b b' j p hj hb => Sim.ok hj rfl (.ndT (.one hb))
  refine Sim.ite rfl (fun g => ?_) fun _ => ?_
  · refine (H _ _ _ _ hi .unary).bind fun u u' j p hj hu => ?_
    exact (H _ _ _ _ hj (.climb hu)).bind fun l l' j p hj hl => piped_sim W H hl j p hj
  refine (H _ _ _ _ hi .post).bind fun u u' j p hj hu => ?_
  rw [W.is j hj _ (by decide)]
  refine Sim.ite rfl (fun g => ?_) fun _ => ?_
  · refine (name_sim W 3 (by decide) (by decide) _ _ (is_lt g)).bind fun nm nm' j p hj hr => ?_
    subst hr
    refine (want_sim W (by decide) j p hj).bind fun _ _ j p hj _ => ?_
    exact (H _ _ _ _ hj .pipe).bind fun b b' j p hj hb => Sim.ok hj rfl (.ndT (.two hu hb))
  · exact (H _ _ _ _ hj (.climb hu)).bind fun l l' j p hj hl => piped_sim W H hl j p hj
theorem unary_sim (i : Nat) (o : Int) (hi : i ≤ ws.length) : Sim ws.length Ali (unaryZ ws en rc i o) (unaryZ ws' en' rc' (i + 1) (o + 1)) := by
  unfold unaryZ; rw [W.is i hi _ (by decide)]
  refine Sim.ite rfl (fun g => ?_) (fun _ => H _ _ _ _ hi .post)
  exact (H _ _ _ _ (is_lt g) .unary).bind fun a a' j p hj hr => Sim.ok hj rfl (.nd (.one hr))
omit H in
theorem next_sim (i : Nat) (hi : i ≤ ws.length) : nextZ ws' (i + 1) = nextZ ws i := by
  unfold nextZ bindsZ
  simp only [List.find?_cons, List.find?_nil]
  repeat rw [W.is i hi _ (by decide)]
theorem climb_sim (least : Int) : ∀ (k k' : Nat) (l l' : SN) (most : Int) (i : Nat) (o : Int), k ≤ k' → Ali l l' → i ≤ ws.length → Sim ws.length Ali (climbZ ws en rc least k l most i o) (climbZ ws' en' rc' least k' l' most (i + 1) (o + 1))
  | 0, _, _, _, _, _, _, _, _, _ => by intro a j p h; cases h
  | k + 1, 0, _, _, _, _, _, h, _, _ => by omega
  | k + 1, k' + 1, l, l', most, i, o, h, hl, hi => by
    unfold climbZ; rw [next_sim W i hi]
    match hn : nextZ ws i with
    | none => exact Sim.ok hi rfl hl
    | some (op, bd, as_) =>
      dsimp only
      refine Sim.ite rfl (fun _ => Sim.ok hi rfl hl) fun _ => ?_
      refine (H _ _ _ _ (next_lt hn) .unary).bind fun u u' j p hj hu => ?_
      refine (H _ _ _ _ hj (.climb hu)).bind fun r r' j p hj hr => ?_
      exact climb_sim least k k' _ _ _ j p (by omega) (.nd (.two hl hr)) hj
theorem join_sim (a a' : Int) : ∀ (k k' : Nat) (l l' : List SN) (i : Nat) (o : Int), k ≤ k' → AliL l l' → i ≤ ws.length → Sim ws.length Ali (joinZ ws en rc a k l i o) (joinZ ws' en' rc' a' k' l' (i + 1) (o + 1))
  | 0, _, _, _, _, _, _, _, _ => by intro a j p h; cases h
  | k + 1, 0, _, _, _, _, h, _, _ => by omega
  | k + 1, k' + 1, l, l', i, o, h, hl, hi => by
    unfold joinZ
    refine (H _ _ _ _ hi .pipe).bind fun x x' j p hj hx => ?_
    refine Sim.ite (W.kd j hj 8 (by decide) (by decide)) (fun g => ?_) fun _ => ?_
    · have hj' : j < ws.length := kind_lt (by rw [g]; decide)
      rw [W.said j hj']
      exact join_sim a a' k k' _ _ _ p (by omega) (hl.append (.two hx (.txt _ _ _))) hj'
    · refine (name_sim W 9 (by decide) (by decide) j p hj).bind fun t t' j2 p hj2 hr => ?_
      subst hr; exact Sim.ok hj2 (by omega) (.nd (hl.append (.two hx (.txt _ _ _))))
theorem text_sim (k k' i : Nat) (o : Int) (hk : k ≤ k') (hi : i ≤ ws.length) : Sim ws.length Ali (textN ws en rc k i o) (textN ws' en' rc' k' (i + 1) (o + 1)) := by
  unfold textN
  refine Sim.ite (W.kd i hi 6 (by decide) (by decide)) (fun g => ?_) fun _ => ?_
  · have h : i < ws.length := kind_lt (by rw [g]; decide)
    rw [W.said i h]; exact Sim.ok h rfl (.txt _ _ _)
  refine Sim.ite (W.kd i hi 7 (by decide) (by decide)) (fun g => ?_) fun _ => Sim.fail
  have h : i < ws.length := kind_lt (by rw [g]; decide)
  rw [W.said i h]
  exact (opens_sim i o h).bind fun _ _ j p hj _ => join_sim W H _ _ k k' _ _ j p hk (.one (.txt _ _ _)) hj
theorem bracket_sim {x x' : SN} (hx : Ali x x') (i : Nat) (o : Int) (hi : i < ws.length) : Sim ws.length Ali (bracketZ ws en rc x i o) (bracketZ ws' en' rc' x' (i + 1) (o + 1)) := by
  unfold bracketZ
  refine (opens_sim i o hi).bind fun _ _ j p hj _ => ?_
  rw [W.is j hj _ (by decide), W.is j hj _ (by decide)]
  refine Sim.ite rfl (fun g => Sim.ok (is_lt g) (by omega) (.nd (.one hx))) fun _ => ?_
  refine Sim.ite rfl (fun g => ?_) fun _ => ?_
  · refine (H _ _ _ _ (is_lt g) .pipe).bind fun t t' j p hj ht => ?_
    exact (closes_sim W _ j p hj).bind fun _ _ j p hj _ => Sim.ok hj rfl (.nd (.three hx .zero ht))
  refine (H _ _ _ _ hj .pipe).bind fun f f' j p hj hf => ?_
  rw [W.is j hj _ (by decide)]
  refine Sim.ite rfl (fun g => Sim.ok (is_lt g) (by omega) (.nd (.two hx hf))) fun _ => ?_
  refine (want_sim W (by decide) j p hj).bind fun _ _ j p hj _ => ?_
  refine Sim.bind (R := Ali) ?_ fun t t' j p hj ht => ?_
  · rw [W.is j hj _ (by decide)]
    exact Sim.ite rfl (fun _ => Sim.ok hj rfl .zero) fun _ => H _ _ _ _ hj .pipe
  exact (closes_sim W _ j p hj).bind fun _ _ j p hj _ => Sim.ok hj rfl (.nd (.three hx hf ht))
theorem posts_sim (k0 k0' : Nat) (h0 : k0 ≤ k0') : ∀ (k k' : Nat) (l l' : SN) (i : Nat) (o : Int), k ≤ k' → Ali l l' → i ≤ ws.length → Sim ws.length Ali (postsZ ws en rc k0 k l i o) (postsZ ws' en' rc' k0' k' l' (i + 1) (o + 1))
  | 0, _, _, _, _, _, _, _, _ => by intro a j p h; cases h
  | k + 1, 0, _, _, _, _, h, _, _ => by omega
  | k + 1, k' + 1, l, l', i, o, h, hl, hi => by
    unfold postsZ
    rw [W.is i hi _ (by decide), W.is i hi _ (by decide), W.is i hi _ (by decide)]
    refine Sim.ite (W.kd i hi 4 (by decide) (by decide)) (fun g => ?_) fun _ => ?_
    · have hj : i < ws.length := kind_lt (by rw [g]; decide)
      rw [W.said i hj]
      exact posts_sim k0 k0' h0 k k' _ _ _ o (by omega) (.nd (.two hl (.txt _ _ _))) hj
    refine Sim.ite rfl (fun g => ?_) fun _ => ?_
    · exact (text_sim W H k0 k0' _ o h0 (is_lt g)).bind fun t t' j p hj ht => posts_sim k0 k0' h0 k k' _ _ j p (by omega) (.nd (.two hl ht)) hj
    refine Sim.ite rfl (fun g => ?_) fun _ => ?_
    · exact (bracket_sim W H hl i o (is_lt g)).bind fun t t' j p hj ht => posts_sim k0 k0' h0 k k' _ _ j p (by omega) ht hj
    refine Sim.ite rfl (fun g => ?_) fun _ => Sim.ok hi rfl hl
    exact posts_sim k0 k0' h0 k k' _ _ _ o (by omega) (.nd (.one hl)) (is_lt g)
theorem self_sim (k k' i : Nat) (o : Int) (hk : k ≤ k') (hi : i < ws.length) : Sim ws.length Ali (selfZ ws en rc k i o) (selfZ ws' en' rc' k' (i + 1) (o + 1)) := by
  unfold selfZ
  refine Sim.ite (by rw [W.kd (i + 1) hi 6 (by decide) (by decide), W.kd (i + 1) hi 7 (by decide) (by decide)]) (fun g => ?_) fun _ => Sim.ok hi rfl (.nd .nil)
  exact (text_sim W H k k' _ o hk hi).bind fun t t' j p hj ht => Sim.ok hj rfl (.nd (.two (.nd .nil) ht))
theorem inner_sim (i : Nat) (o : Int) (hi : i < ws.length) : Sim ws.length Ali (innerZ ws en rc i o) (innerZ ws' en' rc' (i + 1) (o + 1)) := by
  unfold innerZ
  refine (opens_sim i o hi).bind fun _ _ j p hj _ => ?_
  refine (H _ _ _ _ hj .pipe).bind fun t t' j p hj ht => ?_
  exact (closes_sim W _ j p hj).bind fun _ _ j p hj _ => Sim.ok hj rfl ht
theorem list_sim (i : Nat) (o : Int) (hi : i < ws.length) : Sim ws.length Ali (listZ ws en rc i o) (listZ ws' en' rc' (i + 1) (o + 1)) := by
  unfold listZ
  refine (opens_sim i o hi).bind fun _ _ j p hj _ => ?_
  refine Sim.bind (R := AliL) ?_ fun t t' j p hj ht => ?_
  · rw [W.is j hj _ (by decide)]
    exact Sim.ite rfl (fun _ => Sim.ok hj rfl .nil) fun _ => (H _ _ _ _ hj .pipe).bind fun t t' j p hj ht => Sim.ok hj rfl (.one ht)
  exact (closes_sim W _ j p hj).bind fun _ _ j p hj _ => Sim.ok hj rfl (.nd ht)
omit W in
theorem value_sim (i : Nat) (o : Int) (hi : i ≤ ws.length) : Sim ws.length Ali (valueZ rc i o) (valueZ rc' (i + 1) (o + 1)) := by
  unfold valueZ
  exact (H _ _ _ _ hi .unary).bind fun u u' j p hj hu => H _ _ _ _ hj (.climb hu)
theorem entry_sim (k k' i : Nat) (o : Int) (hk : k ≤ k') (hi : i ≤ ws.length) : Sim ws.length AliL (entryZ ws en rc k i o) (entryZ ws' en' rc' k' (i + 1) (o + 1)) := by
  unfold entryZ
  rcases Nat.lt_or_ge i ws.length with h | h
  · rw [W.said i h, W.kind i h, W.is i hi _ (by decide), W.is (i + 1) h _ (by decide)]
    refine Sim.ite rfl (fun _ => ?_) fun _ => ?_
    · refine Sim.ite rfl (fun g => ?_) fun _ => Sim.ok h rfl (.two (.txt _ _ _) (.nd (.two (.nd .nil) (.txt _ _ _))))
      exact (value_sim H _ o (is_lt g)).bind fun v v' j p hj hv => Sim.ok hj rfl (.two (.txt _ _ _) hv)
    refine Sim.ite rfl (fun _ => ?_) fun _ => ?_
    · refine Sim.ite rfl (fun g => ?_) fun _ => Sim.ok h rfl (.two (.txt _ _ _) (.ndT .nil))
      exact (value_sim H _ o (is_lt g)).bind fun v v' j p hj hv => Sim.ok hj rfl (.two (.txt _ _ _) hv)
    refine Sim.bind (R := Ali) ?_ fun t t' j p hj ht => ?_
    · refine Sim.ite rfl (fun _ => text_sim W H k k' i o hk hi) fun _ => ?_
      exact Sim.ite rfl (fun _ => inner_sim W H i o h) fun _ => Sim.fail
    refine (want_sim W (by decide) j p hj).bind fun _ _ j p hj _ => ?_
    exact (value_sim H j p hj).bind fun v v' j p hj hv => Sim.ok hj rfl (.two ht hv)
  · have e : i = ws.length := by omega
    subst e
    rw [kindZ_end, is_end]
    simp only [show ¬ ((0 : Int) = 1 ∨ (0 : Int) = 2 ∨ (0 : Int) = 6) from by decide, show ¬ ((0 : Int) = 3) from by decide, show ¬ ((0 : Int) = 7) from by decide, if_false, Bool.false_eq_true]
    intro a j p hx
    unfold failZ at hx
    split at hx <;> cases hx
theorem entries_sim (k0 k0' : Nat) (h0 : k0 ≤ k0') : ∀ (k k' : Nat) (l l' : List SN) (i : Nat) (o : Int), k ≤ k' → AliL l l' → i ≤ ws.length → Sim ws.length AliL (entriesZ ws en rc k0 k l i o) (entriesZ ws' en' rc' k0' k' l' (i + 1) (o + 1))
  | 0, _, _, _, _, _, _, _, _ => by intro a j p h; cases h
  | k + 1, 0, _, _, _, _, h, _, _ => by omega
  | k + 1, k' + 1, l, l', i, o, h, hl, hi => by
    unfold entriesZ
    refine (entry_sim W H k0 k0' i o h0 hi).bind fun t t' j p hj ht => ?_
    rw [W.is j hj _ (by decide)]
    exact Sim.ite rfl (fun g => entries_sim k0 k0' h0 k k' _ _ _ p (by omega) (hl.append ht) (is_lt g)) fun _ => Sim.ok hj rfl (hl.append ht)
theorem record_sim (k k' i : Nat) (o : Int) (hk : k ≤ k') (hi : i < ws.length) : Sim ws.length Ali (recordZ ws en rc k i o) (recordZ ws' en' rc' k' (i + 1) (o + 1)) := by
  unfold recordZ
  refine (opens_sim i o hi).bind fun _ _ j p hj _ => ?_
  refine Sim.bind (R := AliL) ?_ fun t t' j p hj ht => ?_
  · rw [W.is j hj _ (by decide)]
    exact Sim.ite rfl (fun _ => Sim.ok hj rfl .nil) fun _ => entries_sim W H k k' hk k k' _ _ j p hk .nil hj
  exact (closes_sim W _ j p hj).bind fun _ _ j p hj _ => Sim.ok hj rfl (.nd ht)
theorem branch_sim (a a' : Int) (i : Nat) (o : Int) (hi : i ≤ ws.length) : Sim ws.length Ali (branchZ ws en rc a i o) (branchZ ws' en' rc' a' (i + 1) (o + 1)) := by
  unfold branchZ
  refine (H _ _ _ _ hi .pipe).bind fun c c' j p hj hc => ?_
  refine (want_sim W (by decide) j p hj).bind fun _ _ j p hj _ => ?_
  refine (H _ _ _ _ hj .pipe).bind fun t t' j p hj ht => ?_
  rw [W.is j hj _ (by decide), W.is j hj _ (by decide)]
  refine Sim.ite rfl (fun g => ?_) fun _ => ?_
  · exact (H _ _ _ _ (is_lt g) .branch).bind fun x x' j p hj hx => Sim.ok hj rfl (.nd (.three hc ht hx))
  refine Sim.bind (R := Ali) (Sim.ite rfl (fun g => H _ _ _ _ (is_lt g) .pipe) fun _ => Sim.ok hj rfl (.nd .nil)) fun x x' j p hj hx => ?_
  exact (want_sim W (by decide) j p hj).bind fun _ _ j p hj _ => Sim.ok hj rfl (.nd (.three hc ht hx))
theorem if_sim (i : Nat) (o : Int) (hi : i < ws.length) : Sim ws.length Ali (ifZ ws en rc i o) (ifZ ws' en' rc' (i + 1) (o + 1)) := by
  unfold ifZ
  refine (opens_sim i o hi).bind fun _ _ j p hj _ => ?_
  exact (H _ _ _ _ hj .branch).bind fun x x' j p hj hx => Sim.ok hj (by omega) hx
theorem try_sim (i : Nat) (o : Int) (hi : i < ws.length) : Sim ws.length Ali (tryZ ws en rc i o) (tryZ ws' en' rc' (i + 1) (o + 1)) := by
  unfold tryZ
  refine (H _ _ _ _ hi .post).bind fun b b' j p hj hb => ?_
  rw [W.is j hj _ (by decide)]
  refine Sim.ite rfl (fun g => ?_) fun _ => Sim.ok hj rfl (.nd (.one hb))
  exact (H _ _ _ _ (is_lt g) .post).bind fun x x' j p hj hx => Sim.ok hj rfl (.nd (.two hb hx))
def AliH (a b : ByteArray × List SN) : Prop := a.1 = b.1 ∧ AliL a.2 b.2
theorem head_sim (i : Nat) (o : Int) (hi : i < ws.length) : Sim ws.length AliH (headZ ws en rc i o) (headZ ws' en' rc' (i + 1) (o + 1)) := by
  unfold headZ
  refine (H _ _ _ _ hi .post).bind fun b b' j p hj hb => ?_
  refine (want_sim W (by decide) j p hj).bind fun _ _ j p hj _ => ?_
  refine (name_sim W 3 (by decide) (by decide) j p hj).bind fun nm nm' j p hj hr => ?_
  rw [W.is j hj _ (by decide)]
  refine Sim.ite rfl (fun g => ?_) fun _ => Sim.fail
  refine (opens_sim j p (is_lt g)).bind fun _ _ j p hj _ => ?_
  refine (H _ _ _ _ hj .pipe).bind fun f f' j p hj hf => ?_
  refine (want_sim W (by decide) j p hj).bind fun _ _ j p hj _ => ?_
  exact (H _ _ _ _ hj .pipe).bind fun u u' j p hj hu => Sim.ok hj rfl ⟨hr, .three hb hf hu⟩
theorem reduce_sim (i : Nat) (o : Int) (hi : i < ws.length) : Sim ws.length Ali (reduceZ ws en rc i o) (reduceZ ws' en' rc' (i + 1) (o + 1)) := by
  unfold reduceZ
  refine (head_sim W H i o hi).bind fun r r' j p hj hr => ?_
  refine (closes_sim W _ j p hj).bind fun _ _ j p hj _ => Sim.ok hj rfl ?_
  rw [hr.1]; exact .ndT hr.2
theorem foreach_sim (i : Nat) (o : Int) (hi : i < ws.length) : Sim ws.length Ali (foreachZ ws en rc i o) (foreachZ ws' en' rc' (i + 1) (o + 1)) := by
  unfold foreachZ
  refine (head_sim W H i o hi).bind fun r r' j p hj hr => ?_
  refine Sim.bind (R := AliL) ?_ fun t t' j p hj ht => ?_
  · rw [W.is j hj _ (by decide)]
    exact Sim.ite rfl (fun g => (H _ _ _ _ (is_lt g) .pipe).bind fun t t' j p hj ht => Sim.ok hj rfl (.one ht)) fun _ => Sim.ok hj rfl .nil
  refine (closes_sim W _ j p hj).bind fun _ _ j p hj _ => Sim.ok hj rfl ?_
  rw [hr.1]; exact .ndT (hr.2.append ht)
omit H in
theorem leave_sim (i : Nat) (o : Int) (hi : i < ws.length) : Sim ws.length Ali (leaveZ ws en i o) (leaveZ ws' en' (i + 1) (o + 1)) := by
  unfold leaveZ
  refine (name_sim W 3 (by decide) (by decide) (i + 1) o hi).bind fun nm nm' j p hj hr => ?_
  subst hr; exact Sim.ok hj rfl (.ndT .nil)
theorem args_sim : ∀ (k k' : Nat) (l l' : List SN) (i : Nat) (o : Int), k ≤ k' → AliL l l' → i ≤ ws.length → Sim ws.length AliL (argsZ ws rc k l i o) (argsZ ws' rc' k' l' (i + 1) (o + 1))
  | 0, _, _, _, _, _, _, _, _ => by intro a j p h; cases h
  | k + 1, 0, _, _, _, _, h, _, _ => by omega
  | k + 1, k' + 1, l, l', i, o, h, hl, hi => by
    unfold argsZ; rw [W.is i hi _ (by decide)]
    refine Sim.ite rfl (fun g => ?_) fun _ => Sim.ok hi rfl hl
    exact (H _ _ _ _ (is_lt g) .pipe).bind fun t t' j p hj ht => args_sim k k' _ _ j p (by omega) (hl.append (.one ht)) hj
theorem call_sim (k k' i : Nat) (o : Int) (hk : k ≤ k') (hi : i ≤ ws.length) : Sim ws.length Ali (callZ ws en rc k i o) (callZ ws' en' rc' k' (i + 1) (o + 1)) := by
  unfold callZ
  refine (name_sim W 1 (by decide) (by decide) i o hi).bind fun nm nm' j p hj hr => ?_
  subst hr
  rw [W.is j hj _ (by decide)]
  refine Sim.ite rfl (fun g => ?_) fun _ => Sim.ok hj rfl (.ndT .nil)
  refine (opens_sim j p (is_lt g)).bind fun _ _ j p hj _ => ?_
  refine (H _ _ _ _ hj .pipe).bind fun t t' j p hj ht => ?_
  refine (args_sim W H k k' _ _ j p hk (.one ht) hj).bind fun l l' j p hj hl => ?_
  exact (closes_sim W _ j p hj).bind fun _ _ j p hj _ => Sim.ok hj rfl (.ndT hl)
theorem term_sim (k k' i : Nat) (o : Int) (hk : k ≤ k') (hi : i ≤ ws.length) : Sim ws.length Ali (termZ ws en rc k i o) (termZ ws' en' rc' k' (i + 1) (o + 1)) := by
  rcases Nat.lt_or_ge i ws.length with h | h
  · unfold termZ
    rw [W.said i h, W.kind i h]
    refine Sim.ite rfl (fun _ => Sim.ok h rfl (.nd (.two (.nd .nil) (.txt _ _ _)))) fun _ => ?_
    refine Sim.ite rfl (fun _ => Sim.ok h rfl (.mk .nil)) fun _ => ?_
    refine Sim.ite rfl (fun _ => text_sim W H k k' i o hk hi) fun _ => ?_
    refine Sim.ite rfl (fun _ => Sim.ok h rfl (.ndT .nil)) fun _ => ?_
    refine Sim.ite rfl (fun _ => call_sim W H k k' i o hk hi) fun _ => ?_
    refine Sim.ite rfl (fun _ => ?_) fun _ => Sim.fail
    refine Sim.ite rfl (fun _ => self_sim W H k k' i o hk h) fun _ => ?_
    refine Sim.ite rfl (fun _ => Sim.ok h rfl (.ndT .nil)) fun _ => ?_
    refine Sim.ite rfl (fun _ => inner_sim W H i o h) fun _ => ?_
    refine Sim.ite rfl (fun _ => list_sim W H i o h) fun _ => ?_
    refine Sim.ite rfl (fun _ => record_sim W H k k' i o hk h) fun _ => ?_
    refine Sim.ite rfl (fun _ => ?_) fun _ => ?_
    · unfold constZ; rw [W.is i hi _ (by decide), W.is i hi _ (by decide)]; exact Sim.ok h rfl (.mk .nil)
    refine Sim.ite rfl (fun _ => if_sim W H i o h) fun _ => ?_
    refine Sim.ite rfl (fun _ => try_sim W H i o h) fun _ => ?_
    refine Sim.ite rfl (fun _ => reduce_sim W H i o h) fun _ => ?_
    refine Sim.ite rfl (fun _ => foreach_sim W H i o h) fun _ => ?_
    exact Sim.ite rfl (fun _ => leave_sim W i o h) fun _ => Sim.fail
  · have e : i = ws.length := by omega
    subst e
    have : termZ ws en rc k ws.length o = failZ ws en ws.length := by
      unfold termZ; rw [kindZ_end]
      simp only [show ¬ ((0 : Int) = 4) from by decide, show ¬ ((0 : Int) = 5) from by decide, show ¬ ((0 : Int) = 6 ∨ (0 : Int) = 7) from by decide, show ¬ ((0 : Int) = 3) from by decide, show ¬ ((0 : Int) = 1) from by decide, show ¬ ((0 : Int) = 10 ∨ (0 : Int) = 2) from by decide, if_false]
    rw [this]; exact Sim.fail
theorem post_sim (k k' i : Nat) (o : Int) (hk : k ≤ k') (hi : i ≤ ws.length) : Sim ws.length Ali (postZ ws en rc k i o) (postZ ws' en' rc' k' (i + 1) (o + 1)) := by
  unfold postZ
  exact (term_sim W H k k' i o hk hi).bind fun n n' j p hj hn => posts_sim W H k k' hk k k' _ _ j p hk hn hj
end
theorem go_sim {ws ws' : List Tok} {en en' : Int} (W : Wd ws ws') : ∀ f f', f ≤ f' → GoodS ws (goZ ws en f) (goZ ws' en' f')
  | 0, _, _ => fun c c' i o hi hc => by cases hc <;> (intro a j p h; cases h)
  | f + 1, 0, h => by omega
  | f + 1, f' + 1, h => fun c c' i o hi hc => by
    have H := go_sim (en := en) (en' := en') W f f' (by omega)
    have hk : f ≤ f' := by omega
    cases hc with
    | pipe => exact pipe_sim W H f f' i o hk hi
    | unary => exact unary_sim W H i o hi
    | post => exact post_sim W H f f' i o hk hi
    | climb hl => exact climb_sim W H _ f f' _ _ _ i o hk hl hi
    | branch => exact branch_sim W H _ _ i o hi
/-- what stands in brackets alone -/
theorem bracket_rest {ws ws' : List Tok} {en en' : Int} (W : Wd ws ws') (h2 : ws'.length = ws.length + 2) (h0 : isZ ws' 0 (⟨#[40]⟩ : ByteArray) = true) (hk : ∀ i, i < ws.length → kindZ ws i ≠ 0)
    (n : SN) (h : restZ ws en = (n, 0, 0)) : (∃ n', restZ ws' en' = (n', 0, 0) ∧ Ali n n') ∨ (restZ ws' en').2.1 = 172 := by
  obtain ⟨j, o, hg, hj⟩ : ∃ j o, goZ ws en (4 * ws.length + 8) .pipe 0 0 = some (.ok (n, j, o)) ∧ j = ws.length := by
    rcases go_end ws en with ⟨e, he, hx⟩ | ⟨n0, j, o, he, h1, hl⟩
    · unfold restZ at h; rw [he] at h
      obtain ⟨e1, e2⟩ := e
      simp only [Prod.mk.injEq] at h
      rcases hx with ⟨g, _⟩ | ⟨g | g, _⟩ <;> simp only at g <;> omega
    · unfold restZ at h; rw [he] at h
      simp only at h
      split at h
      · rename_i hz
        cases h
        refine ⟨j, o, he, ?_⟩
        rcases Nat.lt_or_ge j ws.length with a | a
        · exact absurd hz (hk j a)
        · omega
      · simp only [Prod.mk.injEq] at h
        split at h <;> omega
  subst hj
  have S := go_sim (en := en) (en' := en') W (4 * ws.length + 8) (4 * ws.length + 14) (by omega) .pipe .pipe 0 0 (by omega) .pipe n _ o hg
  have ek : kindZ ws' 0 = 10 ∨ kindZ ws' 0 = 2 := is_kind h0
  have es : saidZ ws' 0 = (⟨#[40]⟩ : ByteArray) := by unfold isZ at h0; simp only [Bool.and_eq_true, decide_eq_true_eq] at h0; exact h0.2
  have nis : ∀ t : ByteArray, t ≠ (⟨#[40]⟩ : ByteArray) → isZ ws' 0 t = false := by
    intro t ht; unfold isZ; rw [es, show decide (((⟨#[40]⟩ : ByteArray) : ByteArray) = t) = false from decide_eq_false (fun h => ht h.symm), Bool.and_false]
  have kend : kindZ ws' (ws.length + 2) = 0 := by unfold kindZ; rw [dif_neg (by omega)]
  have iend : ∀ t, isZ ws' (ws.length + 2) t = false := by intro t; unfold isZ; rw [kend]; rfl
  have ht : ∀ x, innerZ ws' en' (goZ ws' en' (4 * ws.length + 14)) 0 0 = x → goZ ws' en' (4 * ws'.length + 8) .pipe 0 0 = x.andThen fun n i o => (postsZ ws' en' (goZ ws' en' (4 * ws.length + 14)) (4 * ws.length + 14) (4 * ws.length + 14) n i o).andThen fun n i o =>
      if isZ ws' i (⟨#[97, 115]⟩ : ByteArray) = true then (nameZ ws' en' 3 (i + 1) o).andThen fun nm i1 o => (wantZ ws' en' (⟨#[124]⟩ : ByteArray) i1 o).andThen fun _ i1 o =>
        (goZ ws' en' (4 * ws.length + 15) .pipe i1 o).andThen fun b i1 o => .ok (ndT 29 (placeZ ws' en' i) nm [n, b]) i1 o
      else (goZ ws' en' (4 * ws.length + 15) (.climb n 1) i o).andThen fun l i o => pipedZ ws' en' (goZ ws' en' (4 * ws.length + 15)) l i o := by
    intro x hx
    have e16 : 4 * ws'.length + 8 = (4 * ws.length + 15) + 1 := by omega
    rw [e16]
    show pipeZ ws' en' (goZ ws' en' (4 * ws.length + 15)) (4 * ws.length + 15) 0 0 = _
    unfold pipeZ
    rw [nis _ (by decide), nis _ (by decide), nis _ (by decide), if_neg (by decide), if_neg (by decide), if_neg (by decide)]
    show PR.andThen (postZ ws' en' (goZ ws' en' (4 * ws.length + 14)) (4 * ws.length + 14) 0 0) _ = _
    have et : termZ ws' en' (goZ ws' en' (4 * ws.length + 14)) (4 * ws.length + 14) 0 0 = x := by
      rw [← hx]; unfold termZ; rw [es]
      simp only
      rw [if_neg (by omega), if_neg (by omega), if_neg (by omega), if_neg (by omega), if_neg (by omega), if_pos ek, if_neg (by decide), if_neg (by decide), if_pos trivial]
    unfold postZ
    rw [et]
    match x with
    | none => rfl
    | some (.error e) => rfl
    | some (.ok (a, i, o)) => rfl
  have hin : innerZ ws' en' (goZ ws' en' (4 * ws.length + 14)) 0 0 = (goZ ws' en' (4 * ws.length + 14) .pipe 1 1).andThen fun n i o => (closesZ ws' en' (⟨#[41]⟩ : ByteArray) i o).andThen fun _ i o => .ok n i o := by
    unfold innerZ opensZ; rw [if_neg (by decide)]; rfl
  rcases S with ⟨q, hq⟩ | ⟨_, n', hq, hr⟩
  · right
    have hq' : goZ ws' en' (4 * ws.length + 14) .pipe 1 1 = some (.error (172, q)) := hq
    have := ht _ rfl
    rw [hin, hq'] at this
    unfold restZ; rw [this]; rfl
  · left
    have hq' : goZ ws' en' (4 * ws.length + 14) .pipe 1 1 = some (.ok (n', ws.length + 1, o + 1)) := hq
    have := ht _ rfl
    rw [hin, hq'] at this
    have hc : closesZ ws' en' (⟨#[41]⟩ : ByteArray) (ws.length + 1) (o + 1) = some (.ok ((), ws.length + 2, o)) := by
      unfold closesZ wantZ
      rw [if_pos (by unfold isZ; rw [W.endk, W.ends]; decide)]
      show some (Except.ok ((), ws.length + 1 + 1, o + 1 - 1)) = _
      rw [show o + 1 - 1 = o by omega]
    have hp : postsZ ws' en' (goZ ws' en' (4 * ws.length + 14)) (4 * ws.length + 14) (4 * ws.length + 14) n' (ws.length + 2) o = some (.ok (n', ws.length + 2, o)) := by
      show postsZ ws' en' (goZ ws' en' (4 * ws.length + 14)) (4 * ws.length + 14) (4 * ws.length + 13 + 1) n' (ws.length + 2) o = _
      unfold postsZ
      rw [kend, iend, iend, iend, if_neg (by decide), if_neg (by decide), if_neg (by decide), if_neg (by decide)]; rfl
    have hcl : goZ ws' en' (4 * ws.length + 15) (.climb n' 1) (ws.length + 2) o = some (.ok (n', ws.length + 2, o)) := by
      show climbZ ws' en' (goZ ws' en' (4 * ws.length + 14)) 1 (4 * ws.length + 13 + 1) n' 8 (ws.length + 2) o = _
      unfold climbZ
      have : nextZ ws' (ws.length + 2) = none := by unfold nextZ; rw [Option.map_eq_none_iff, List.find?_eq_none]; intro b _; rw [iend]; decide
      rw [this]; rfl
    have e2 : goZ ws' en' (4 * ws'.length + 8) .pipe 0 0 = some (.ok (n', ws.length + 2, o)) := by
      rw [this]
      simp only [PR.andThen, hc, PR.ok, hp, iend, Bool.false_eq_true, if_false, hcl, pipedZ]
    refine ⟨n', ?_, hr⟩
    unfold restZ; rw [e2]
    simp only [kend, if_true]
end Go.Proofs.YthlmhnlfcnpocaaDoor.U
