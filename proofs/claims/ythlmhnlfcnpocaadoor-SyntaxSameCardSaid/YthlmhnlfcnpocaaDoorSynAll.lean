/- The parser of XSyn ends with the fuel that restZ gives it, and what it leaves lies behind what it read. -/
import Derived.Test.YthlmhnlfcnpocaaDoorScanner
namespace Go.Proofs.YthlmhnlfcnpocaaDoor.U
set_option linter.unusedVariables false

/-- a filter as the parser makes it: Op, At, Text, the constant's Kind, Num and Text, Names, Kids -/
inductive SN where
  | mk (op at_ : Int) (text : ByteArray) (kind : Int) (num vtext : ByteArray) (names : List ByteArray) (kids : List SN)
def SN.zero : SN := .mk 0 0 (⟨#[]⟩ : ByteArray) 0 (⟨#[]⟩ : ByteArray) (⟨#[]⟩ : ByteArray) [] []
def nd (op a : Int) (kids : List SN) : SN := .mk op a (⟨#[]⟩ : ByteArray) 0 (⟨#[]⟩ : ByteArray) (⟨#[]⟩ : ByteArray) [] kids
def ndT (op a : Int) (t : ByteArray) (kids : List SN) : SN := .mk op a t 0 (⟨#[]⟩ : ByteArray) (⟨#[]⟩ : ByteArray) [] kids
def txt (t : ByteArray) (a : Int) : SN := .mk 2 a (⟨#[]⟩ : ByteArray) 4 (⟨#[]⟩ : ByteArray) t [] []

abbrev PR (α : Type) := Option (Except (Int × Int) (α × Nat × Int))
def PR.andThen {α β : Type} (x : PR α) (f : α → Nat → Int → PR β) : PR β :=
  match x with
  | none => none
  | some (.error e) => some (.error e)
  | some (.ok (a, i, o)) => f a i o
def PR.ok {α : Type} (a : α) (i : Nat) (o : Int) : PR α := some (.ok (a, i, o))
def PR.err {α : Type} (e a : Int) : PR α := some (.error (e, a))

/-- what is called again -/
inductive PC where
  | pipe | unary | post
  | climb (left : SN) (least : Int)
  | branch (a : Int)

section
variable (ws : List Tok) (en : Int)
def placeZ (i : Nat) : Int := if h : i < ws.length then ws[i].f1 else en
def kindZ (i : Nat) : Int := if h : i < ws.length then ws[i].f0 else 0
def saidZ (i : Nat) : ByteArray := if h : i < ws.length then ws[i].f3 else (⟨#[]⟩ : ByteArray)
def isZ (i : Nat) (t : ByteArray) : Bool := (decide (kindZ ws i = 10) || decide (kindZ ws i = 2)) && decide (saidZ ws i = t)
def failZ {α : Type} (i : Nat) : PR α := if i < ws.length then .err 171 (placeZ ws en i) else .err 170 en
def wantZ (t : ByteArray) (i : Nat) (o : Int) : PR Unit := if isZ ws i t = true then .ok () (i + 1) o else failZ ws en i
def nameZ (k : Int) (i : Nat) (o : Int) : PR ByteArray := if kindZ ws i = k then .ok (saidZ ws i) (i + 1) o else failZ ws en i
def opensZ (i : Nat) (o : Int) : PR Unit := if o = 64 then .err 172 (placeZ ws en i) else .ok () (i + 1) (o + 1)
def closesZ (t : ByteArray) (i : Nat) (o : Int) : PR Unit := (wantZ ws en t i o).andThen fun _ i o => .ok () i (o - 1)

/-- the marks between two filters: sign, Op, how tight, 0 from the left, 1 from the right, 2 once -/
def bindsZ : List (ByteArray × Int × Int × Int) :=
  [((⟨#[44]⟩ : ByteArray), 13, 1, 0), ((⟨#[61]⟩ : ByteArray), 36, 2, 2), ((⟨#[124, 61]⟩ : ByteArray), 37, 2, 2), ((⟨#[43, 61]⟩ : ByteArray), 38, 2, 2), ((⟨#[45, 61]⟩ : ByteArray), 39, 2, 2), ((⟨#[42, 61]⟩ : ByteArray), 40, 2, 2), ((⟨#[47, 61]⟩ : ByteArray), 41, 2, 2), ((⟨#[37, 61]⟩ : ByteArray), 42, 2, 2), ((⟨#[47, 47, 61]⟩ : ByteArray), 43, 2, 2),
   ((⟨#[47, 47]⟩ : ByteArray), 27, 3, 1), ((⟨#[111, 114]⟩ : ByteArray), 26, 4, 0), ((⟨#[97, 110, 100]⟩ : ByteArray), 25, 5, 0), ((⟨#[61, 61]⟩ : ByteArray), 19, 6, 2), ((⟨#[33, 61]⟩ : ByteArray), 20, 6, 2), ((⟨#[60]⟩ : ByteArray), 21, 6, 2), ((⟨#[60, 61]⟩ : ByteArray), 22, 6, 2), ((⟨#[62]⟩ : ByteArray), 23, 6, 2), ((⟨#[62, 61]⟩ : ByteArray), 24, 6, 2),
   ((⟨#[43]⟩ : ByteArray), 14, 7, 0), ((⟨#[45]⟩ : ByteArray), 15, 7, 0), ((⟨#[42]⟩ : ByteArray), 16, 8, 0), ((⟨#[47]⟩ : ByteArray), 17, 8, 0), ((⟨#[37]⟩ : ByteArray), 18, 8, 0)]
def nextZ (i : Nat) : Option (Int × Int × Int) := (bindsZ.find? fun b => isZ ws i b.1).map (·.2)

variable (rc : PC → Nat → Int → PR SN)
def pipedZ (l : SN) (i : Nat) (o : Int) : PR SN :=
  if isZ ws i (⟨#[124]⟩ : ByteArray) = true then (rc .pipe (i + 1) o).andThen fun r i' o => .ok (nd 12 (placeZ ws en i) [l, r]) i' o else .ok l i o
def paramZ (i : Nat) (o : Int) : PR ByteArray :=
  if kindZ ws i = 3 then (nameZ ws en 3 i o).andThen fun t i o => .ok ((⟨#[36]⟩ : ByteArray) ++ t) i o else nameZ ws en 1 i o
def paramsZ : Nat → List ByteArray → Nat → Int → PR (List ByteArray)
  | 0, _, _, _ => none
  | k + 1, l, i, o => if isZ ws i (⟨#[59]⟩ : ByteArray) = true then (paramZ ws en (i + 1) o).andThen fun t i o => paramsZ k (l ++ [t]) i o else .ok l i o
def defZ (k : Nat) (i : Nat) (o : Int) : PR SN :=
  (opensZ ws en i o).andThen fun _ i1 o => (nameZ ws en 1 i1 o).andThen fun nm i1 o =>
    (if isZ ws i1 (⟨#[40]⟩ : ByteArray) = true then (opensZ ws en i1 o).andThen fun _ i1 o => (paramZ ws en i1 o).andThen fun t i1 o =>
        (paramsZ ws en k [t] i1 o).andThen fun l i1 o => (closesZ ws en (⟨#[41]⟩ : ByteArray) i1 o).andThen fun _ i1 o => .ok l i1 o
      else (.ok [] i1 o : PR (List ByteArray))).andThen fun l i1 o =>
    (wantZ ws en (⟨#[58]⟩ : ByteArray) i1 o).andThen fun _ i1 o => (rc .pipe i1 o).andThen fun body i1 o => (closesZ ws en (⟨#[59]⟩ : ByteArray) i1 o).andThen fun _ i1 o =>
    (rc .pipe i1 o).andThen fun rest i1 o => .ok (.mk 32 (placeZ ws en i) nm 0 (⟨#[]⟩ : ByteArray) (⟨#[]⟩ : ByteArray) l [body, rest]) i1 o
def pipeZ (k : Nat) (i : Nat) (o : Int) : PR SN :=
  if isZ ws i (⟨#[100, 101, 102]⟩ : ByteArray) = true then defZ ws en rc k i o
  else if isZ ws i (⟨#[108, 97, 98, 101, 108]⟩ : ByteArray) = true then (nameZ ws en 3 (i + 1) o).andThen fun nm i1 o => (wantZ ws en (⟨#[124]⟩ : ByteArray) i1 o).andThen fun _ i1 o =>
    (rc .pipe i1 o).andThen fun b i1 o => .ok (ndT 34 (placeZ ws en i) nm [b]) i1 o
  else if isZ ws i (⟨#[45]⟩ : ByteArray) = true then (rc .unary i o).andThen fun u i o => (rc (.climb u 1) i o).andThen fun l i o => pipedZ ws en rc l i o
  else (rc .post i o).andThen fun n i o =>
    if isZ ws i (⟨#[97, 115]⟩ : ByteArray) = true then (nameZ ws en 3 (i + 1) o).andThen fun nm i1 o => (wantZ ws en (⟨#[124]⟩ : ByteArray) i1 o).andThen fun _ i1 o =>
      (rc .pipe i1 o).andThen fun b i1 o => .ok (ndT 29 (placeZ ws en i) nm [n, b]) i1 o
    else (rc (.climb n 1) i o).andThen fun l i o => pipedZ ws en rc l i o
def climbZ (least : Int) : Nat → SN → Int → Nat → Int → PR SN
  | 0, _, _, _, _ => none
  | k + 1, left, most, i, o =>
    match nextZ ws i with
    | none => .ok left i o
    | some (op, bd, as_) =>
      if bd < least ∨ most < bd then .ok left i o
      else (rc .unary (i + 1) o).andThen fun u i1 o => (rc (.climb u (if as_ = 1 then bd else bd + 1)) i1 o).andThen fun r i1 o =>
        climbZ least k (nd op (placeZ ws en i) [left, r]) (if as_ = 0 then bd else bd - 1) i1 o
def unaryZ (i : Nat) (o : Int) : PR SN :=
  if isZ ws i (⟨#[45]⟩ : ByteArray) = true then (rc .unary (i + 1) o).andThen fun u i1 o => .ok (nd 11 (placeZ ws en i) [u]) i1 o else rc .post i o
def joinZ (a : Int) : Nat → List SN → Nat → Int → PR SN
  | 0, _, _, _ => none
  | k + 1, l, i, o => (rc .pipe i o).andThen fun x i o =>
    if kindZ ws i = 8 then joinZ a k (l ++ [x, txt (saidZ ws i) (placeZ ws en i)]) (i + 1) o
    else (nameZ ws en 9 i o).andThen fun t i1 o => .ok (nd 3 a (l ++ [x, txt t (placeZ ws en i)])) i1 (o - 1)
def textN (k : Nat) (i : Nat) (o : Int) : PR SN :=
  if kindZ ws i = 6 then .ok (txt (saidZ ws i) (placeZ ws en i)) (i + 1) o
  else if kindZ ws i = 7 then (opensZ ws en i o).andThen fun _ i1 o => joinZ ws en rc (placeZ ws en i) k [txt (saidZ ws i) (placeZ ws en i)] i1 o
  else failZ ws en i
def bracketZ (of_ : SN) (i : Nat) (o : Int) : PR SN :=
  (opensZ ws en i o).andThen fun _ j o =>
    if isZ ws j (⟨#[93]⟩ : ByteArray) = true then .ok (nd 9 (placeZ ws en i) [of_]) (j + 1) (o - 1)
    else if isZ ws j (⟨#[58]⟩ : ByteArray) = true then (rc .pipe (j + 1) o).andThen fun t j o => (closesZ ws en (⟨#[93]⟩ : ByteArray) j o).andThen fun _ j o => .ok (nd 8 (placeZ ws en i) [of_, .zero, t]) j o
    else (rc .pipe j o).andThen fun f j o =>
      if isZ ws j (⟨#[93]⟩ : ByteArray) = true then .ok (nd 7 (placeZ ws en i) [of_, f]) (j + 1) (o - 1)
      else (wantZ ws en (⟨#[58]⟩ : ByteArray) j o).andThen fun _ j o =>
        (if isZ ws j (⟨#[93]⟩ : ByteArray) = true then (.ok .zero j o : PR SN) else rc .pipe j o).andThen fun t j o =>
        (closesZ ws en (⟨#[93]⟩ : ByteArray) j o).andThen fun _ j o => .ok (nd 8 (placeZ ws en i) [of_, f, t]) j o
def postsZ (k0 : Nat) : Nat → SN → Nat → Int → PR SN
  | 0, _, _, _ => none
  | k + 1, n, i, o =>
    if kindZ ws i = 4 then postsZ k0 k (nd 7 (placeZ ws en i) [n, txt (saidZ ws i) (placeZ ws en i)]) (i + 1) o
    else if isZ ws i (⟨#[46]⟩ : ByteArray) = true then (textN ws en rc k0 (i + 1) o).andThen fun t i1 o => postsZ k0 k (nd 7 (placeZ ws en i) [n, t]) i1 o
    else if isZ ws i (⟨#[91]⟩ : ByteArray) = true then (bracketZ ws en rc n i o).andThen fun n i1 o => postsZ k0 k n i1 o
    else if isZ ws i (⟨#[63]⟩ : ByteArray) = true then postsZ k0 k (nd 10 (placeZ ws en i) [n]) (i + 1) o
    else .ok n i o
def selfZ (k : Nat) (i : Nat) (o : Int) : PR SN :=
  if kindZ ws (i + 1) = 6 ∨ kindZ ws (i + 1) = 7 then (textN ws en rc k (i + 1) o).andThen fun t i1 o => .ok (nd 7 (placeZ ws en i) [nd 1 (placeZ ws en i) [], t]) i1 o
  else .ok (nd 1 (placeZ ws en i) []) (i + 1) o
def innerZ (i : Nat) (o : Int) : PR SN :=
  (opensZ ws en i o).andThen fun _ i o => (rc .pipe i o).andThen fun n i o => (closesZ ws en (⟨#[41]⟩ : ByteArray) i o).andThen fun _ i o => .ok n i o
def listZ (i : Nat) (o : Int) : PR SN :=
  (opensZ ws en i o).andThen fun _ j o =>
    (if isZ ws j (⟨#[93]⟩ : ByteArray) = true then (.ok [] j o : PR (List SN)) else (rc .pipe j o).andThen fun x j o => .ok [x] j o).andThen fun l j o =>
    (closesZ ws en (⟨#[93]⟩ : ByteArray) j o).andThen fun _ j o => .ok (nd 4 (placeZ ws en i) l) j o
def constZ (i : Nat) (o : Int) : PR SN :=
  .ok (.mk 2 (placeZ ws en i) (⟨#[]⟩ : ByteArray) (if isZ ws i (⟨#[102, 97, 108, 115, 101]⟩ : ByteArray) = true then 1 else if isZ ws i (⟨#[116, 114, 117, 101]⟩ : ByteArray) = true then 2 else 0) (⟨#[]⟩ : ByteArray) (⟨#[]⟩ : ByteArray) [] []) (i + 1) o
def valueZ (i : Nat) (o : Int) : PR SN := (rc .unary i o).andThen fun u i o => rc (.climb u 3) i o
def entryZ (k : Nat) (i : Nat) (o : Int) : PR (List SN) :=
  let a := placeZ ws en i
  if kindZ ws i = 1 ∨ kindZ ws i = 2 ∨ kindZ ws i = 6 then
    if isZ ws (i + 1) (⟨#[58]⟩ : ByteArray) = true then (valueZ rc (i + 1 + 1) o).andThen fun v i1 o => .ok [txt (saidZ ws i) a, v] i1 o
    else .ok [txt (saidZ ws i) a, nd 7 a [nd 1 a [], txt (saidZ ws i) a]] (i + 1) o
  else if kindZ ws i = 3 then
    if isZ ws (i + 1) (⟨#[58]⟩ : ByteArray) = true then (valueZ rc (i + 1 + 1) o).andThen fun v i1 o => .ok [txt (saidZ ws i) a, v] i1 o
    else .ok [txt (saidZ ws i) a, ndT 6 a (saidZ ws i) []] (i + 1) o
  else (if kindZ ws i = 7 then textN ws en rc k i o else if isZ ws i (⟨#[40]⟩ : ByteArray) = true then innerZ ws en rc i o else failZ ws en i).andThen fun key i1 o =>
    (wantZ ws en (⟨#[58]⟩ : ByteArray) i1 o).andThen fun _ i1 o => (valueZ rc i1 o).andThen fun v i1 o => .ok [key, v] i1 o
def entriesZ (k0 : Nat) : Nat → List SN → Nat → Int → PR (List SN)
  | 0, _, _, _ => none
  | k + 1, l, i, o => (entryZ ws en rc k0 i o).andThen fun e i o => if isZ ws i (⟨#[44]⟩ : ByteArray) = true then entriesZ k0 k (l ++ e) (i + 1) o else .ok (l ++ e) i o
def recordZ (k : Nat) (i : Nat) (o : Int) : PR SN :=
  (opensZ ws en i o).andThen fun _ j o =>
    (if isZ ws j (⟨#[125]⟩ : ByteArray) = true then (.ok [] j o : PR (List SN)) else entriesZ ws en rc k k [] j o).andThen fun l j o =>
    (closesZ ws en (⟨#[125]⟩ : ByteArray) j o).andThen fun _ j o => .ok (nd 5 (placeZ ws en i) l) j o
def branchZ (a : Int) (i : Nat) (o : Int) : PR SN :=
  (rc .pipe i o).andThen fun c i o => (wantZ ws en (⟨#[116, 104, 101, 110]⟩ : ByteArray) i o).andThen fun _ i o => (rc .pipe i o).andThen fun t i o =>
    if isZ ws i (⟨#[101, 108, 105, 102]⟩ : ByteArray) = true then (rc (.branch (placeZ ws en i)) (i + 1) o).andThen fun x i o => .ok (nd 28 a [c, t, x]) i o
    else (if isZ ws i (⟨#[101, 108, 115, 101]⟩ : ByteArray) = true then rc .pipe (i + 1) o else (.ok (nd 1 (placeZ ws en i) []) i o : PR SN)).andThen fun x i o =>
      (wantZ ws en (⟨#[101, 110, 100]⟩ : ByteArray) i o).andThen fun _ i o => .ok (nd 28 a [c, t, x]) i o
def ifZ (i : Nat) (o : Int) : PR SN :=
  (opensZ ws en i o).andThen fun _ i1 o => (rc (.branch (placeZ ws en i)) i1 o).andThen fun n i1 o => .ok n i1 (o - 1)
def tryZ (i : Nat) (o : Int) : PR SN :=
  (rc .post (i + 1) o).andThen fun b j o =>
    if isZ ws j (⟨#[99, 97, 116, 99, 104]⟩ : ByteArray) = true then (rc .post (j + 1) o).andThen fun h j o => .ok (nd 10 (placeZ ws en i) [b, h]) j o else .ok (nd 10 (placeZ ws en i) [b]) j o
/-- a loop's head: source, name, first, update -/
def headZ (i : Nat) (o : Int) : PR (ByteArray × List SN) :=
  (rc .post (i + 1) o).andThen fun s j o => (wantZ ws en (⟨#[97, 115]⟩ : ByteArray) j o).andThen fun _ j o => (nameZ ws en 3 j o).andThen fun nm j o =>
    if isZ ws j (⟨#[40]⟩ : ByteArray) = true then (opensZ ws en j o).andThen fun _ j o => (rc .pipe j o).andThen fun f j o => (wantZ ws en (⟨#[59]⟩ : ByteArray) j o).andThen fun _ j o =>
      (rc .pipe j o).andThen fun u j o => .ok (nm, [s, f, u]) j o
    else failZ ws en j
def reduceZ (i : Nat) (o : Int) : PR SN :=
  (headZ ws en rc i o).andThen fun r j o => (closesZ ws en (⟨#[41]⟩ : ByteArray) j o).andThen fun _ j o => .ok (ndT 30 (placeZ ws en i) r.1 r.2) j o
def foreachZ (i : Nat) (o : Int) : PR SN :=
  (headZ ws en rc i o).andThen fun r j o =>
    (if isZ ws j (⟨#[59]⟩ : ByteArray) = true then (rc .pipe (j + 1) o).andThen fun x j o => .ok [x] j o else (.ok [] j o : PR (List SN))).andThen fun l j o =>
    (closesZ ws en (⟨#[41]⟩ : ByteArray) j o).andThen fun _ j o => .ok (ndT 31 (placeZ ws en i) r.1 (r.2 ++ l)) j o
def leaveZ (i : Nat) (o : Int) : PR SN := (nameZ ws en 3 (i + 1) o).andThen fun t j o => .ok (ndT 35 (placeZ ws en i) t []) j o
def argsZ : Nat → List SN → Nat → Int → PR (List SN)
  | 0, _, _, _ => none
  | k + 1, l, i, o => if isZ ws i (⟨#[59]⟩ : ByteArray) = true then (rc .pipe (i + 1) o).andThen fun x i o => argsZ k (l ++ [x]) i o else .ok l i o
def callZ (k : Nat) (i : Nat) (o : Int) : PR SN :=
  (nameZ ws en 1 i o).andThen fun nm j o =>
    if isZ ws j (⟨#[40]⟩ : ByteArray) = true then (opensZ ws en j o).andThen fun _ j o => (rc .pipe j o).andThen fun x j o => (argsZ ws rc k [x] j o).andThen fun l j o =>
      (closesZ ws en (⟨#[41]⟩ : ByteArray) j o).andThen fun _ j o => .ok (ndT 33 (placeZ ws en i) nm l) j o
    else .ok (ndT 33 (placeZ ws en i) nm []) j o
def termZ (k : Nat) (i : Nat) (o : Int) : PR SN :=
  let a := placeZ ws en i; let t := saidZ ws i
  if kindZ ws i = 4 then .ok (nd 7 a [nd 1 a [], txt t a]) (i + 1) o
  else if kindZ ws i = 5 then .ok (.mk 2 a (⟨#[]⟩ : ByteArray) 3 t (⟨#[]⟩ : ByteArray) [] []) (i + 1) o
  else if kindZ ws i = 6 ∨ kindZ ws i = 7 then textN ws en rc k i o
  else if kindZ ws i = 3 then .ok (ndT 6 a t []) (i + 1) o
  else if kindZ ws i = 1 then callZ ws en rc k i o
  else if kindZ ws i = 10 ∨ kindZ ws i = 2 then
    if t = (⟨#[46]⟩ : ByteArray) then selfZ ws en rc k i o
    else if t = (⟨#[46, 46]⟩ : ByteArray) then .ok (ndT 33 a (⟨#[114, 101, 99, 117, 114, 115, 101]⟩ : ByteArray) []) (i + 1) o
    else if t = (⟨#[40]⟩ : ByteArray) then innerZ ws en rc i o
    else if t = (⟨#[91]⟩ : ByteArray) then listZ ws en rc i o
    else if t = (⟨#[123]⟩ : ByteArray) then recordZ ws en rc k i o
    else if t = (⟨#[110, 117, 108, 108]⟩ : ByteArray) ∨ t = (⟨#[102, 97, 108, 115, 101]⟩ : ByteArray) ∨ t = (⟨#[116, 114, 117, 101]⟩ : ByteArray) then constZ ws en i o
    else if t = (⟨#[105, 102]⟩ : ByteArray) then ifZ ws en rc i o
    else if t = (⟨#[116, 114, 121]⟩ : ByteArray) then tryZ ws en rc i o
    else if t = (⟨#[114, 101, 100, 117, 99, 101]⟩ : ByteArray) then reduceZ ws en rc i o
    else if t = (⟨#[102, 111, 114, 101, 97, 99, 104]⟩ : ByteArray) then foreachZ ws en rc i o
    else if t = (⟨#[98, 114, 101, 97, 107]⟩ : ByteArray) then leaveZ ws en i o
    else failZ ws en i
  else failZ ws en i
def postZ (k : Nat) (i : Nat) (o : Int) : PR SN := (termZ ws en rc k i o).andThen fun n i o => postsZ ws en rc k k n i o
end

/-- the parser with so much fuel -/
def goZ (ws : List Tok) (en : Int) : Nat → PC → Nat → Int → PR SN
  | 0, _, _, _ => none
  | f + 1, .pipe, i, o => pipeZ ws en (goZ ws en f) f i o
  | f + 1, .unary, i, o => unaryZ ws en (goZ ws en f) i o
  | f + 1, .post, i, o => postZ ws en (goZ ws en f) f i o
  | f + 1, .climb l least, i, o => climbZ ws en (goZ ws en f) least f l 8 i o
  | f + 1, .branch a, i, o => branchZ ws en (goZ ws en f) a i o
def restZ (ws : List Tok) (en : Int) : SN × Int × Int :=
  match goZ ws en (4 * ws.length + 8) .pipe 0 0 with
  | none => (.zero, -1, 0)
  | some (.error (e, a)) => (.zero, e, a)
  | some (.ok (n, i, _)) => if kindZ ws i = 0 then (n, 0, 0) else (.zero, if i < ws.length then 171 else 170, placeZ ws en i)

end Go.Proofs.YthlmhnlfcnpocaaDoor.U

namespace Go.Proofs.YthlmhnlfcnpocaaDoor.U
set_option linter.unusedVariables false
set_option linter.unusedSimpArgs false

/-- if it goes well so much is open -/
def Ev {α : Type} (o : Int) (x : PR α) : Prop := ∀ a i o1, x = some (.ok (a, i, o1)) → o1 = o
theorem Ev.bind {α β : Type} {o o' : Int} {x : PR α} {f : α → Nat → Int → PR β} (h : Ev o x) (g : ∀ a i, Ev o' (f a i o)) : Ev o' (x.andThen f) := by
  intro b j o1 he
  match x, h, he with
  | some (.ok (a, i, o2)), h, he =>
    have := h a i o2 rfl
    subst this
    exact g a i b j o1 he
theorem Ev.ok {α : Type} (a : α) (i : Nat) (o : Int) : Ev o (.ok a i o : PR α) := fun _ _ _ h => by cases h; rfl
theorem Ev.okE {α : Type} (a : α) (i : Nat) {o o' : Int} (h : o' = o) : Ev o (.ok a i o' : PR α) := h ▸ Ev.ok a i o'
theorem Ev.err {α : Type} (e a o : Int) : Ev o (.err e a : PR α) := fun _ _ _ h => by cases h
theorem Ev.none {α : Type} (o : Int) : Ev o (none : PR α) := fun _ _ _ h => by cases h
theorem Ev.ite {α : Type} {o : Int} {p : Prop} [Decidable p] {x y : PR α} (h : Ev o x) (g : Ev o y) : Ev o (if p then x else y) := by
  by_cases hp : p
  · rw [if_pos hp]; exact h
  · rw [if_neg hp]; exact g
section
variable {ws : List Tok} {en : Int}
theorem fail_even {α : Type} (i : Nat) (o : Int) : Ev o (failZ ws en i : PR α) := Ev.ite (Ev.err _ _ _) (Ev.err _ _ _)
theorem want_even (t : ByteArray) (i : Nat) (o : Int) : Ev o (wantZ ws en t i o) := Ev.ite (Ev.ok _ _ _) (fail_even _ _)
theorem name_even (k : Int) (i : Nat) (o : Int) : Ev o (nameZ ws en k i o) := Ev.ite (Ev.ok _ _ _) (fail_even _ _)
theorem opens_even (i : Nat) (o : Int) : Ev (o + 1) (opensZ ws en i o) := Ev.ite (Ev.err _ _ _) (Ev.ok _ _ _)
theorem closes_even (t : ByteArray) (i : Nat) (o : Int) : Ev (o - 1) (closesZ ws en t i o) := (want_even t i o).bind fun _ _ => Ev.ok _ _ _
theorem closes_even1 (t : ByteArray) (i : Nat) (o : Int) : Ev o (closesZ ws en t i (o + 1)) := by
  have := closes_even (ws := ws) (en := en) t i (o + 1)
  rwa [show o + 1 - 1 = o by omega] at this
variable {rc : PC → Nat → Int → PR SN} (H : ∀ c i o, Ev o (rc c i o))
include H
theorem piped_even (l : SN) (i : Nat) (o : Int) : Ev o (pipedZ ws en rc l i o) := Ev.ite ((H _ _ _).bind fun _ _ => Ev.ok _ _ _) (Ev.ok _ _ _)
omit H in
theorem param_even (i : Nat) (o : Int) : Ev o (paramZ ws en i o) := Ev.ite ((name_even _ _ _).bind fun _ _ => Ev.ok _ _ _) (name_even _ _ _)
omit H in
theorem params_even : ∀ (k : Nat) (l : List ByteArray) (i : Nat) (o : Int), Ev o (paramsZ ws en k l i o)
  | 0, _, _, _ => Ev.none _
  | k + 1, l, i, o => Ev.ite ((param_even _ _).bind fun _ _ => params_even k _ _ _) (Ev.ok _ _ _)
theorem def_even (k : Nat) (i : Nat) (o : Int) : Ev o (defZ ws en rc k i o) := by
  unfold defZ
  refine (opens_even _ _).bind fun _ _ => (name_even _ _ _).bind fun _ _ => Ev.bind (o := o + 1) (Ev.ite ?_ (Ev.ok _ _ _)) fun _ _ => (want_even _ _ _).bind fun _ _ => (H _ _ _).bind fun _ _ => (closes_even1 _ _ _).bind fun _ _ => (H _ _ _).bind fun _ _ => Ev.ok _ _ _
  exact (opens_even _ _).bind fun _ _ => (param_even _ _).bind fun _ _ => (params_even _ _ _ _).bind fun _ _ => (closes_even1 _ _ _).bind fun _ _ => Ev.ok _ _ _
theorem pipe_even (k : Nat) (i : Nat) (o : Int) : Ev o (pipeZ ws en rc k i o) := by
  unfold pipeZ
  refine Ev.ite (def_even H _ _ _) (Ev.ite ?_ (Ev.ite ?_ ?_))
  · exact (name_even _ _ _).bind fun _ _ => (want_even _ _ _).bind fun _ _ => (H _ _ _).bind fun _ _ => Ev.ok _ _ _
  · exact (H _ _ _).bind fun _ _ => (H _ _ _).bind fun _ _ => piped_even H _ _ _
  · refine (H _ _ _).bind fun _ _ => Ev.ite ?_ ?_
    · exact (name_even _ _ _).bind fun _ _ => (want_even _ _ _).bind fun _ _ => (H _ _ _).bind fun _ _ => Ev.ok _ _ _
    · exact (H _ _ _).bind fun _ _ => piped_even H _ _ _
theorem climb_even (least : Int) : ∀ (k : Nat) (l : SN) (most : Int) (i : Nat) (o : Int), Ev o (climbZ ws en rc least k l most i o)
  | 0, _, _, _, _ => Ev.none _
  | k + 1, l, most, i, o => by
    unfold climbZ
    cases nextZ ws i with
    | none => exact Ev.ok _ _ _
    | some b => exact Ev.ite (Ev.ok _ _ _) ((H _ _ _).bind fun _ _ => (H _ _ _).bind fun _ _ => climb_even least k _ _ _ _)
theorem unary_even (i : Nat) (o : Int) : Ev o (unaryZ ws en rc i o) := Ev.ite ((H _ _ _).bind fun _ _ => Ev.ok _ _ _) (H _ _ _)
theorem join_even (a : Int) : ∀ (k : Nat) (l : List SN) (i : Nat) (o : Int), Ev (o - 1) (joinZ ws en rc a k l i o)
  | 0, _, _, _ => Ev.none _
  | k + 1, l, i, o => (H _ _ _).bind fun _ _ => Ev.ite (join_even a k _ _ _) ((name_even _ _ _).bind fun _ _ => Ev.ok _ _ _)
theorem text_even (k : Nat) (i : Nat) (o : Int) : Ev o (textN ws en rc k i o) := by
  refine Ev.ite (Ev.ok _ _ _) (Ev.ite ((opens_even _ _).bind fun _ _ => ?_) (fail_even _ _))
  have := join_even (ws := ws) (en := en) H (placeZ ws en i) k [txt (saidZ ws i) (placeZ ws en i)] ‹Nat› (o + 1)
  rwa [show o + 1 - 1 = o by omega] at this
theorem bracket_even (l : SN) (i : Nat) (o : Int) : Ev o (bracketZ ws en rc l i o) := by
  unfold bracketZ
  refine (opens_even _ _).bind fun _ _ => Ev.ite (Ev.okE _ _ (by omega)) (Ev.ite ?_ ?_)
  · exact (H _ _ _).bind fun _ _ => (closes_even1 _ _ _).bind fun _ _ => Ev.ok _ _ _
  · refine (H _ _ _).bind fun _ _ => Ev.ite (Ev.okE _ _ (by omega)) ((want_even _ _ _).bind fun _ _ => Ev.bind (o := o + 1) (Ev.ite (Ev.ok _ _ _) (H _ _ _)) fun _ _ => (closes_even1 _ _ _).bind fun _ _ => Ev.ok _ _ _)
theorem posts_even (k0 : Nat) : ∀ (k : Nat) (l : SN) (i : Nat) (o : Int), Ev o (postsZ ws en rc k0 k l i o)
  | 0, _, _, _ => Ev.none _
  | k + 1, l, i, o => Ev.ite (posts_even k0 k _ _ _) (Ev.ite ((text_even H _ _ _).bind fun _ _ => posts_even k0 k _ _ _) (Ev.ite ((bracket_even H _ _ _).bind fun _ _ => posts_even k0 k _ _ _) (Ev.ite (posts_even k0 k _ _ _) (Ev.ok _ _ _))))
theorem self_even (k : Nat) (i : Nat) (o : Int) : Ev o (selfZ ws en rc k i o) := Ev.ite ((text_even H _ _ _).bind fun _ _ => Ev.ok _ _ _) (Ev.ok _ _ _)
theorem inner_even (i : Nat) (o : Int) : Ev o (innerZ ws en rc i o) := (opens_even _ _).bind fun _ _ => (H _ _ _).bind fun _ _ => (closes_even1 _ _ _).bind fun _ _ => Ev.ok _ _ _
theorem list_even (i : Nat) (o : Int) : Ev o (listZ ws en rc i o) := (opens_even _ _).bind fun _ _ => Ev.bind (o := o + 1) (Ev.ite (Ev.ok _ _ _) ((H _ _ _).bind fun _ _ => Ev.ok _ _ _)) fun _ _ => (closes_even1 _ _ _).bind fun _ _ => Ev.ok _ _ _
omit H in
theorem const_even (i : Nat) (o : Int) : Ev o (constZ ws en i o) := Ev.ok _ _ _
theorem value_even (i : Nat) (o : Int) : Ev o (valueZ rc i o) := (H _ _ _).bind fun _ _ => H _ _ _
theorem entry_even (k : Nat) (i : Nat) (o : Int) : Ev o (entryZ ws en rc k i o) := by
  unfold entryZ
  refine Ev.ite (Ev.ite ((value_even H _ _).bind fun _ _ => Ev.ok _ _ _) (Ev.ok _ _ _)) (Ev.ite (Ev.ite ((value_even H _ _).bind fun _ _ => Ev.ok _ _ _) (Ev.ok _ _ _)) ?_)
  exact Ev.bind (o := o) (Ev.ite (text_even H _ _ _) (Ev.ite (inner_even H _ _) (fail_even _ _))) fun _ _ => (want_even _ _ _).bind fun _ _ => (value_even H _ _).bind fun _ _ => Ev.ok _ _ _
theorem entries_even (k0 : Nat) : ∀ (k : Nat) (l : List SN) (i : Nat) (o : Int), Ev o (entriesZ ws en rc k0 k l i o)
  | 0, _, _, _ => Ev.none _
  | k + 1, l, i, o => (entry_even H _ _ _).bind fun _ _ => Ev.ite (entries_even k0 k _ _ _) (Ev.ok _ _ _)
theorem record_even (k : Nat) (i : Nat) (o : Int) : Ev o (recordZ ws en rc k i o) := (opens_even _ _).bind fun _ _ => Ev.bind (o := o + 1) (Ev.ite (Ev.ok _ _ _) (entries_even H _ _ _ _ _)) fun _ _ => (closes_even1 _ _ _).bind fun _ _ => Ev.ok _ _ _
theorem branch_even (a : Int) (i : Nat) (o : Int) : Ev o (branchZ ws en rc a i o) := by
  refine (H _ _ _).bind fun _ _ => (want_even _ _ _).bind fun _ _ => (H _ _ _).bind fun _ _ => Ev.ite ((H _ _ _).bind fun _ _ => Ev.ok _ _ _) ?_
  exact Ev.bind (o := o) (Ev.ite (H _ _ _) (Ev.ok _ _ _)) fun _ _ => (want_even _ _ _).bind fun _ _ => Ev.ok _ _ _
theorem if_even (i : Nat) (o : Int) : Ev o (ifZ ws en rc i o) := (opens_even _ _).bind fun _ _ => (H _ _ _).bind fun _ _ => Ev.okE _ _ (by omega)
theorem try_even (i : Nat) (o : Int) : Ev o (tryZ ws en rc i o) := (H _ _ _).bind fun _ _ => Ev.ite ((H _ _ _).bind fun _ _ => Ev.ok _ _ _) (Ev.ok _ _ _)
theorem head_even (i : Nat) (o : Int) : Ev (o + 1) (headZ ws en rc i o) := by
  refine (H _ _ _).bind fun _ _ => (want_even _ _ _).bind fun _ _ => (name_even _ _ _).bind fun _ _ => Ev.ite ?_ (fail_even _ _)
  exact (opens_even _ _).bind fun _ _ => (H _ _ _).bind fun _ _ => (want_even _ _ _).bind fun _ _ => (H _ _ _).bind fun _ _ => Ev.ok _ _ _
theorem reduce_even (i : Nat) (o : Int) : Ev o (reduceZ ws en rc i o) := (head_even H _ _).bind fun _ _ => (closes_even1 _ _ _).bind fun _ _ => Ev.ok _ _ _
theorem foreach_even (i : Nat) (o : Int) : Ev o (foreachZ ws en rc i o) := (head_even H _ _).bind fun _ _ => Ev.bind (o := o + 1) (Ev.ite ((H _ _ _).bind fun _ _ => Ev.ok _ _ _) (Ev.ok _ _ _)) fun _ _ => (closes_even1 _ _ _).bind fun _ _ => Ev.ok _ _ _
omit H in
theorem leave_even (i : Nat) (o : Int) : Ev o (leaveZ ws en i o) := (name_even _ _ _).bind fun _ _ => Ev.ok _ _ _
theorem args_even : ∀ (k : Nat) (l : List SN) (i : Nat) (o : Int), Ev o (argsZ ws rc k l i o)
  | 0, _, _, _ => Ev.none _
  | k + 1, l, i, o => Ev.ite ((H _ _ _).bind fun _ _ => args_even k _ _ _) (Ev.ok _ _ _)
theorem call_even (k : Nat) (i : Nat) (o : Int) : Ev o (callZ ws en rc k i o) := (name_even _ _ _).bind fun _ _ => Ev.ite ((opens_even _ _).bind fun _ _ => (H _ _ _).bind fun _ _ => (args_even H _ _ _ _).bind fun _ _ => (closes_even1 _ _ _).bind fun _ _ => Ev.ok _ _ _) (Ev.ok _ _ _)
theorem term_even (k : Nat) (i : Nat) (o : Int) : Ev o (termZ ws en rc k i o) := by
  unfold termZ
  exact Ev.ite (Ev.ok _ _ _) (Ev.ite (Ev.ok _ _ _) (Ev.ite (text_even H _ _ _) (Ev.ite (Ev.ok _ _ _) (Ev.ite (call_even H _ _ _) (Ev.ite (Ev.ite (self_even H _ _ _) (Ev.ite (Ev.ok _ _ _) (Ev.ite (inner_even H _ _) (Ev.ite (list_even H _ _) (Ev.ite (record_even H _ _ _) (Ev.ite (const_even _ _) (Ev.ite (if_even H _ _) (Ev.ite (try_even H _ _) (Ev.ite (reduce_even H _ _) (Ev.ite (foreach_even H _ _) (Ev.ite (leave_even _ _) (fail_even _ _)))))))))))) (fail_even _ _))))))
theorem post_even (k : Nat) (i : Nat) (o : Int) : Ev o (postZ ws en rc k i o) := (term_even H _ _ _).bind fun _ _ => posts_even H _ _ _ _ _
end
theorem go_even (ws : List Tok) (en : Int) : ∀ (f : Nat) (c : PC) (i : Nat) (o : Int), Ev o (goZ ws en f c i o)
  | 0, _, _, _ => Ev.none _
  | f + 1, .pipe, i, o => pipe_even (go_even ws en f) _ _ _
  | f + 1, .unary, i, o => unary_even (go_even ws en f) _ _
  | f + 1, .post, i, o => post_even (go_even ws en f) _ _ _
  | f + 1, .climb l least, i, o => climb_even (go_even ws en f) _ _ _ _ _ _
  | f + 1, .branch a, i, o => branch_even (go_even ws en f) _ _ _
end Go.Proofs.YthlmhnlfcnpocaaDoor.U

namespace Go.Proofs.YthlmhnlfcnpocaaDoor.U
set_option linter.unusedVariables false
set_option linter.unusedSimpArgs false
set_option linter.unusedSectionVars false

/-- not out of fuel, and the place behind between two bounds -/
def Fine {α : Type} (E : Int × Int → Prop) (lo hi : Nat) (x : PR α) : Prop :=
  match x with
  | none => False
  | some (.error e) => E e
  | some (.ok (_, i, _)) => lo ≤ i ∧ i ≤ hi
theorem Fine.bind {α β : Type} {E : Int × Int → Prop} {lo lo' hi : Nat} {x : PR α} {f : α → Nat → Int → PR β} (h : Fine E lo hi x) (g : ∀ a i o, lo ≤ i → i ≤ hi → Fine E lo' hi (f a i o)) : Fine E lo' hi (x.andThen f) := by
  match x, h with
  | some (.error _), h => exact h
  | some (.ok (a, i, o)), h => exact g a i o h.1 h.2
theorem Fine.mono {α : Type} {E : Int × Int → Prop} {lo lo' hi : Nat} {x : PR α} (h : Fine E lo hi x) (g : lo' ≤ lo) : Fine E lo' hi x := by
  match x, h with
  | some (.error _), h => exact h
  | some (.ok (a, i, o)), h => exact ⟨Nat.le_trans g h.1, h.2⟩
/-- what a fault says -/
def ErrOk (ws : List Tok) (en : Int) (e : Int × Int) : Prop := (e.1 = 170 ∧ e.2 = en) ∨ ((e.1 = 171 ∨ e.1 = 172) ∧ ∃ j, j < ws.length ∧ e.2 = placeZ ws en j)
theorem Fine.ok {α : Type} {E : Int × Int → Prop} {lo hi : Nat} {a : α} {i : Nat} {o : Int} (h : lo ≤ i) (g : i ≤ hi) : Fine E lo hi (.ok a i o : PR α) := ⟨h, g⟩

section
variable {ws : List Tok} {en : Int}
theorem kind_lt {i : Nat} (h : kindZ ws i ≠ 0) : i < ws.length := by
  unfold kindZ at h; split at h
  · assumption
  · exact absurd rfl h
theorem is_kind {i : Nat} {t : ByteArray} (h : isZ ws i t = true) : kindZ ws i = 10 ∨ kindZ ws i = 2 := by
  unfold isZ at h; simp only [Bool.and_eq_true, Bool.or_eq_true, decide_eq_true_eq] at h; exact h.1
theorem is_lt {i : Nat} {t : ByteArray} (h : isZ ws i t = true) : i < ws.length := kind_lt (by rcases is_kind h with h | h <;> omega)
theorem fail_fine {α : Type} (lo hi i : Nat) : Fine (ErrOk ws en) lo hi (failZ ws en i : PR α) := by
  unfold failZ; split
  · rename_i h; exact Or.inr ⟨Or.inl rfl, i, h, rfl⟩
  · exact Or.inl ⟨rfl, rfl⟩
theorem want_fine {lo : Nat} (t : ByteArray) (i : Nat) (o : Int) (h : lo ≤ i + 1) : Fine (ErrOk ws en) lo ws.length (wantZ ws en t i o) := by
  unfold wantZ; split
  · rename_i g; exact ⟨h, is_lt g⟩
  · exact fail_fine _ _ _
theorem name_fine {lo : Nat} (k : Int) (hk : k ≠ 0) (i : Nat) (o : Int) (h : lo ≤ i + 1) : Fine (ErrOk ws en) lo ws.length (nameZ ws en k i o) := by
  unfold nameZ; split
  · rename_i g; exact ⟨h, kind_lt (by rw [g]; exact hk)⟩
  · exact fail_fine _ _ _
theorem opens_fine {lo : Nat} (i : Nat) (o : Int) (hi : i < ws.length) (h : lo ≤ i + 1) : Fine (ErrOk ws en) lo ws.length (opensZ ws en i o) := by
  unfold opensZ; split
  · exact Or.inr ⟨Or.inr rfl, i, hi, rfl⟩
  · exact ⟨h, hi⟩
theorem closes_fine {lo : Nat} (t : ByteArray) (i : Nat) (o : Int) (h : lo ≤ i + 1) : Fine (ErrOk ws en) lo ws.length (closesZ ws en t i o) := by
  unfold closesZ; exact (want_fine t i o h).bind fun _ j o h1 h2 => ⟨h1, h2⟩

/-- what the parser with so much fuel does -/
def need : PC → Nat
  | .pipe => 3 | .unary => 2 | .post => 1 | .climb _ _ => 2 | .branch _ => 4
def adv : PC → Nat
  | .climb _ _ => 0 | _ => 1
def Good (ws : List Tok) (en : Int) (n : Nat) (rc : PC → Nat → Int → PR SN) : Prop :=
  ∀ c i o, i ≤ ws.length → 4 * (ws.length - i) + need c ≤ n → Fine (ErrOk ws en) (i + adv c) ws.length (rc c i o)
variable {n : Nat} {rc : PC → Nat → Int → PR SN} (H : Good ws en n rc)
include H
theorem Good.pipe {lo : Nat} (i : Nat) (o : Int) (hi : i ≤ ws.length) (hn : 4 * (ws.length - i) + 3 ≤ n) (hl : lo ≤ i + 1) : Fine (ErrOk ws en) lo ws.length (rc .pipe i o) := (H .pipe i o hi hn).mono hl
theorem Good.unary {lo : Nat} (i : Nat) (o : Int) (hi : i ≤ ws.length) (hn : 4 * (ws.length - i) + 2 ≤ n) (hl : lo ≤ i + 1) : Fine (ErrOk ws en) lo ws.length (rc .unary i o) := (H .unary i o hi hn).mono hl
theorem Good.post {lo : Nat} (i : Nat) (o : Int) (hi : i ≤ ws.length) (hn : 4 * (ws.length - i) + 1 ≤ n) (hl : lo ≤ i + 1) : Fine (ErrOk ws en) lo ws.length (rc .post i o) := (H .post i o hi hn).mono hl
theorem Good.climb {lo : Nat} (l : SN) (b : Int) (i : Nat) (o : Int) (hi : i ≤ ws.length) (hn : 4 * (ws.length - i) + 2 ≤ n) (hl : lo ≤ i) : Fine (ErrOk ws en) lo ws.length (rc (.climb l b) i o) := (H (.climb l b) i o hi hn).mono hl
theorem Good.branch {lo : Nat} (a : Int) (i : Nat) (o : Int) (hi : i ≤ ws.length) (hn : 4 * (ws.length - i) + 4 ≤ n) (hl : lo ≤ i + 1) : Fine (ErrOk ws en) lo ws.length (rc (.branch a) i o) := (H (.branch a) i o hi hn).mono hl

omit H in
theorem Fine.is {α : Type} {E : Int × Int → Prop} {lo hi i : Nat} {t : ByteArray} {x y : PR α} (h : i < ws.length → Fine E lo hi x) (g : Fine E lo hi y) : Fine E lo hi (if isZ ws i t = true then x else y) := by
  split
  · rename_i a; exact h (is_lt a)
  · exact g
omit H in
theorem Fine.kd {α : Type} {E : Int × Int → Prop} {lo hi i : Nat} {k : Int} {x y : PR α} (hk : k ≠ 0) (h : i < ws.length → Fine E lo hi x) (g : Fine E lo hi y) : Fine E lo hi (if kindZ ws i = k then x else y) := by
  split
  · rename_i a; exact h (kind_lt (by rw [a]; exact hk))
  · exact g
omit H in
theorem Fine.kd2 {α : Type} {E : Int × Int → Prop} {lo hi i : Nat} {k m : Int} {x y : PR α} (hk : k ≠ 0) (hm : m ≠ 0) (h : i < ws.length → Fine E lo hi x) (g : Fine E lo hi y) : Fine E lo hi (if kindZ ws i = k ∨ kindZ ws i = m then x else y) := by
  split
  · rename_i a; exact h (kind_lt (by rcases a with a | a <;> (rw [a]; assumption)))
  · exact g
omit H in
theorem Fine.kd3 {α : Type} {E : Int × Int → Prop} {lo hi i : Nat} {k m l : Int} {x y : PR α} (hk : k ≠ 0) (hm : m ≠ 0) (hl : l ≠ 0) (h : i < ws.length → Fine E lo hi x) (g : Fine E lo hi y) : Fine E lo hi (if kindZ ws i = k ∨ kindZ ws i = m ∨ kindZ ws i = l then x else y) := by
  split
  · rename_i a; exact h (kind_lt (by rcases a with a | a | a <;> (rw [a]; assumption)))
  · exact g
omit H in
theorem Fine.ite {α : Type} {E : Int × Int → Prop} {lo hi : Nat} {p : Prop} [Decidable p] {x y : PR α} (h : Fine E lo hi x) (g : Fine E lo hi y) : Fine E lo hi (if p then x else y) := by
  split <;> assumption
/-! the steps of a 'fine' proof, their side conditions found by themselves: q.. with any bound, r.. with the first step's own -/
omit H in
theorem q1 {α : Type} {lo hi i : Nat} : Fine (ErrOk ws en) lo hi (failZ ws en i : PR α) := fail_fine _ _ _
omit H in
theorem q2 {α : Type} {E : Int × Int → Prop} {lo hi : Nat} {a : α} {i : Nat} {o : Int} (h : lo ≤ i := by omega) (g : i ≤ hi := by omega) : Fine E lo hi (.ok a i o : PR α) := .ok h g
omit H in
theorem q3 {lo : Nat} {t : ByteArray} {i : Nat} {o : Int} (h : lo ≤ i + 1 := by omega) : Fine (ErrOk ws en) lo ws.length (wantZ ws en t i o) := want_fine _ _ _ h
omit H in
theorem q4 {lo : Nat} {k : Int} {i : Nat} {o : Int} (hk : k ≠ 0 := by decide) (h : lo ≤ i + 1 := by omega) : Fine (ErrOk ws en) lo ws.length (nameZ ws en k i o) := name_fine _ hk _ _ h
omit H in
theorem q5 {lo : Nat} {i : Nat} {o : Int} (hi : i < ws.length := by omega) (h : lo ≤ i + 1 := by omega) : Fine (ErrOk ws en) lo ws.length (opensZ ws en i o) := opens_fine _ _ hi h
omit H in
theorem q6 {lo : Nat} {t : ByteArray} {i : Nat} {o : Int} (h : lo ≤ i + 1 := by omega) : Fine (ErrOk ws en) lo ws.length (closesZ ws en t i o) := closes_fine _ _ _ h
omit H in
theorem q7 {lo : Nat} {i : Nat} {o : Int} (H : Good ws en n rc := by assumption) (hi : i ≤ ws.length := by omega) (hn : 4 * (ws.length - i) + 3 ≤ n := by omega) (hl : lo ≤ i + 1 := by omega) : Fine (ErrOk ws en) lo ws.length (rc .pipe i o) := H.pipe _ _ hi hn hl
omit H in
theorem q8 {lo : Nat} {i : Nat} {o : Int} (H : Good ws en n rc := by assumption) (hi : i ≤ ws.length := by omega) (hn : 4 * (ws.length - i) + 2 ≤ n := by omega) (hl : lo ≤ i + 1 := by omega) : Fine (ErrOk ws en) lo ws.length (rc .unary i o) := H.unary _ _ hi hn hl
omit H in
theorem q9 {lo : Nat} {i : Nat} {o : Int} (H : Good ws en n rc := by assumption) (hi : i ≤ ws.length := by omega) (hn : 4 * (ws.length - i) + 1 ≤ n := by omega) (hl : lo ≤ i + 1 := by omega) : Fine (ErrOk ws en) lo ws.length (rc .post i o) := H.post _ _ hi hn hl
omit H in
theorem qa {lo : Nat} {l : SN} {b : Int} {i : Nat} {o : Int} (H : Good ws en n rc := by assumption) (hi : i ≤ ws.length := by omega) (hn : 4 * (ws.length - i) + 2 ≤ n := by omega) (hl : lo ≤ i := by omega) : Fine (ErrOk ws en) lo ws.length (rc (.climb l b) i o) := H.climb _ _ _ _ hi hn hl
omit H in
theorem qb {lo : Nat} {a : Int} {i : Nat} {o : Int} (H : Good ws en n rc := by assumption) (hi : i ≤ ws.length := by omega) (hn : 4 * (ws.length - i) + 4 ≤ n := by omega) (hl : lo ≤ i + 1 := by omega) : Fine (ErrOk ws en) lo ws.length (rc (.branch a) i o) := H.branch _ _ _ hi hn hl
omit H in
theorem r1 {t : ByteArray} {i : Nat} {o : Int} : Fine (ErrOk ws en) (i + 1) ws.length (wantZ ws en t i o) := want_fine _ _ _ (Nat.le_refl _)
omit H in
theorem r2 {k : Int} {i : Nat} {o : Int} (hk : k ≠ 0 := by decide) : Fine (ErrOk ws en) (i + 1) ws.length (nameZ ws en k i o) := name_fine _ hk _ _ (Nat.le_refl _)
omit H in
theorem r3 {i : Nat} {o : Int} (hi : i < ws.length := by omega) : Fine (ErrOk ws en) (i + 1) ws.length (opensZ ws en i o) := opens_fine _ _ hi (Nat.le_refl _)
omit H in
theorem r4 {t : ByteArray} {i : Nat} {o : Int} : Fine (ErrOk ws en) (i + 1) ws.length (closesZ ws en t i o) := closes_fine _ _ _ (Nat.le_refl _)
omit H in
theorem r5 {i : Nat} {o : Int} (H : Good ws en n rc := by assumption) (hi : i ≤ ws.length := by omega) (hn : 4 * (ws.length - i) + 3 ≤ n := by omega) : Fine (ErrOk ws en) (i + 1) ws.length (rc .pipe i o) := H.pipe _ _ hi hn (Nat.le_refl _)
omit H in
theorem r6 {i : Nat} {o : Int} (H : Good ws en n rc := by assumption) (hi : i ≤ ws.length := by omega) (hn : 4 * (ws.length - i) + 2 ≤ n := by omega) : Fine (ErrOk ws en) (i + 1) ws.length (rc .unary i o) := H.unary _ _ hi hn (Nat.le_refl _)
omit H in
theorem r7 {i : Nat} {o : Int} (H : Good ws en n rc := by assumption) (hi : i ≤ ws.length := by omega) (hn : 4 * (ws.length - i) + 1 ≤ n := by omega) : Fine (ErrOk ws en) (i + 1) ws.length (rc .post i o) := H.post _ _ hi hn (Nat.le_refl _)
omit H in
theorem r8 {l : SN} {b : Int} {i : Nat} {o : Int} (H : Good ws en n rc := by assumption) (hi : i ≤ ws.length := by omega) (hn : 4 * (ws.length - i) + 2 ≤ n := by omega) : Fine (ErrOk ws en) i ws.length (rc (.climb l b) i o) := H.climb _ _ _ _ hi hn (Nat.le_refl _)
omit H in
theorem r9 {a : Int} {i : Nat} {o : Int} (H : Good ws en n rc := by assumption) (hi : i ≤ ws.length := by omega) (hn : 4 * (ws.length - i) + 4 ≤ n := by omega) : Fine (ErrOk ws en) (i + 1) ws.length (rc (.branch a) i o) := H.branch _ _ _ hi hn (Nat.le_refl _)
omit H in
theorem s2 {α : Type} {E : Int × Int → Prop} {lo hi i : Nat} {k m : Int} {x y : PR α} (h : i < ws.length → Fine E lo hi x) (g : Fine E lo hi y) (hk : k ≠ 0 := by decide) (hm : m ≠ 0 := by decide) : Fine E lo hi (if kindZ ws i = k ∨ kindZ ws i = m then x else y) := Fine.kd2 hk hm h g
omit H in
theorem s1 {α : Type} {E : Int × Int → Prop} {lo hi i : Nat} {k : Int} {x y : PR α} (h : i < ws.length → Fine E lo hi x) (g : Fine E lo hi y) (hk : k ≠ 0 := by decide) : Fine E lo hi (if kindZ ws i = k then x else y) := Fine.kd hk h g
omit H in
theorem s3 {α : Type} {E : Int × Int → Prop} {lo hi i : Nat} {k m l : Int} {x y : PR α} (h : i < ws.length → Fine E lo hi x) (g : Fine E lo hi y) (hk : k ≠ 0 := by decide) (hm : m ≠ 0 := by decide) (hl : l ≠ 0 := by decide) : Fine E lo hi (if kindZ ws i = k ∨ kindZ ws i = m ∨ kindZ ws i = l then x else y) := Fine.kd3 hk hm hl h g

theorem piped_fine {lo : Nat} (l : SN) (i : Nat) (o : Int) (hi : i ≤ ws.length) (hn : 4 * (ws.length - i) + 2 ≤ n) (hl : lo ≤ i) : Fine (ErrOk ws en) lo ws.length (pipedZ ws en rc l i o) := by
  unfold pipedZ; repeat (first|assumption|exact q1|exact q2|exact q3|exact q4|exact q5|exact q6|exact q7|exact q8|exact q9|exact qa|exact qb|refine Fine.is (fun _ => ?_) ?_|refine s1 (fun _ => ?_) ?_|refine s2 (fun _ => ?_) ?_|refine s3 (fun _ => ?_) ?_|refine Fine.bind (by first|exact r1|exact r2|exact r3|exact r4|exact r5|exact r6|exact r7|exact r8|exact r9) (fun _ _ _ _ _ => ?_))
omit H in
theorem param_fine {lo : Nat} (i : Nat) (o : Int) (hl : lo ≤ i + 1) : Fine (ErrOk ws en) lo ws.length (paramZ ws en i o) := by
  unfold paramZ; repeat (first|assumption|exact q1|exact q2|exact q3|exact q4|exact q5|exact q6|exact q7|exact q8|exact q9|exact qa|exact qb|refine Fine.is (fun _ => ?_) ?_|refine s1 (fun _ => ?_) ?_|refine s2 (fun _ => ?_) ?_|refine s3 (fun _ => ?_) ?_|refine Fine.bind (by first|exact r1|exact r2|exact r3|exact r4|exact r5|exact r6|exact r7|exact r8|exact r9) (fun _ _ _ _ _ => ?_))
omit H in
theorem params_fine {lo : Nat} : ∀ (k : Nat) (l : List ByteArray) (i : Nat) (o : Int), i ≤ ws.length → ws.length - i < k → lo ≤ i → Fine (ErrOk ws en) lo ws.length (paramsZ ws en k l i o)
  | 0, _, _, _, _, h, _ => by omega
  | k + 1, l, i, o, hi, h, hl => by
    unfold paramsZ
    refine Fine.is (fun _ => ?_) ?_
    · exact (param_fine _ _ (Nat.le_refl _)).bind fun _ j o _ _ => params_fine k _ j o (by omega) (by omega) (by omega)
    · repeat (first|assumption|exact q1|exact q2|exact q3|exact q4|exact q5|exact q6|exact q7|exact q8|exact q9|exact qa|exact qb|refine Fine.is (fun _ => ?_) ?_|refine s1 (fun _ => ?_) ?_|refine s2 (fun _ => ?_) ?_|refine s3 (fun _ => ?_) ?_|refine Fine.bind (by first|exact r1|exact r2|exact r3|exact r4|exact r5|exact r6|exact r7|exact r8|exact r9) (fun _ _ _ _ _ => ?_))
theorem def_fine (k i : Nat) (o : Int) (hi : i < ws.length) (hk : ws.length - i ≤ k) (hn : 4 * (ws.length - i) + 2 ≤ n) : Fine (ErrOk ws en) (i + 1) ws.length (defZ ws en rc k i o) := by
  unfold defZ
  refine Fine.bind (by (first|exact r1|exact r2|exact r3|exact r4|exact r5|exact r6|exact r7|exact r8|exact r9)) (fun _ i1 _ _ _ => ?_)
  refine Fine.bind (by (first|exact r1|exact r2|exact r3|exact r4|exact r5|exact r6|exact r7|exact r8|exact r9)) (fun _ i2 _ _ _ => ?_)
  refine Fine.bind (lo := i2) ?_ (fun _ _ _ _ _ => ?_)
  · refine Fine.is (fun _ => ?_) ?_
    · refine Fine.bind (by (first|exact r1|exact r2|exact r3|exact r4|exact r5|exact r6|exact r7|exact r8|exact r9)) (fun _ _ _ _ _ => ?_)
      refine Fine.bind (param_fine _ _ (Nat.le_refl _)) (fun _ _ _ _ _ => ?_)
      refine Fine.bind (params_fine _ _ _ _ (by omega) (by omega) (Nat.le_refl _)) (fun _ _ _ _ _ => ?_)
      repeat (first|assumption|exact q1|exact q2|exact q3|exact q4|exact q5|exact q6|exact q7|exact q8|exact q9|exact qa|exact qb|refine Fine.is (fun _ => ?_) ?_|refine s1 (fun _ => ?_) ?_|refine s2 (fun _ => ?_) ?_|refine s3 (fun _ => ?_) ?_|refine Fine.bind (by first|exact r1|exact r2|exact r3|exact r4|exact r5|exact r6|exact r7|exact r8|exact r9) (fun _ _ _ _ _ => ?_))
    · repeat (first|assumption|exact q1|exact q2|exact q3|exact q4|exact q5|exact q6|exact q7|exact q8|exact q9|exact qa|exact qb|refine Fine.is (fun _ => ?_) ?_|refine s1 (fun _ => ?_) ?_|refine s2 (fun _ => ?_) ?_|refine s3 (fun _ => ?_) ?_|refine Fine.bind (by first|exact r1|exact r2|exact r3|exact r4|exact r5|exact r6|exact r7|exact r8|exact r9) (fun _ _ _ _ _ => ?_))
  repeat (first|assumption|exact q1|exact q2|exact q3|exact q4|exact q5|exact q6|exact q7|exact q8|exact q9|exact qa|exact qb|refine Fine.is (fun _ => ?_) ?_|refine s1 (fun _ => ?_) ?_|refine s2 (fun _ => ?_) ?_|refine s3 (fun _ => ?_) ?_|refine Fine.bind (by first|exact r1|exact r2|exact r3|exact r4|exact r5|exact r6|exact r7|exact r8|exact r9) (fun _ _ _ _ _ => ?_))
theorem pipe_fine (k i : Nat) (o : Int) (hi : i ≤ ws.length) (hk : ws.length - i ≤ k) (hn : 4 * (ws.length - i) + 2 ≤ n) : Fine (ErrOk ws en) (i + 1) ws.length (pipeZ ws en rc k i o) := by
  unfold pipeZ
  refine Fine.is (fun _ => def_fine H k i o (by omega) hk hn) ?_
  refine Fine.is (fun _ => ?_) ?_
  · repeat (first|assumption|exact q1|exact q2|exact q3|exact q4|exact q5|exact q6|exact q7|exact q8|exact q9|exact qa|exact qb|refine Fine.is (fun _ => ?_) ?_|refine s1 (fun _ => ?_) ?_|refine s2 (fun _ => ?_) ?_|refine s3 (fun _ => ?_) ?_|refine Fine.bind (by first|exact r1|exact r2|exact r3|exact r4|exact r5|exact r6|exact r7|exact r8|exact r9) (fun _ _ _ _ _ => ?_))
  refine Fine.is (fun _ => ?_) ?_
  · refine Fine.bind (by (first|exact r1|exact r2|exact r3|exact r4|exact r5|exact r6|exact r7|exact r8|exact r9)) (fun _ _ _ _ _ => ?_)
    refine Fine.bind (by (first|exact r1|exact r2|exact r3|exact r4|exact r5|exact r6|exact r7|exact r8|exact r9)) (fun _ _ _ _ _ => ?_)
    exact piped_fine H _ _ _ (by omega) (by omega) (by omega)
  refine Fine.bind (by (first|exact r1|exact r2|exact r3|exact r4|exact r5|exact r6|exact r7|exact r8|exact r9)) (fun _ _ _ _ _ => ?_)
  refine Fine.is (fun _ => ?_) ?_
  · repeat (first|assumption|exact q1|exact q2|exact q3|exact q4|exact q5|exact q6|exact q7|exact q8|exact q9|exact qa|exact qb|refine Fine.is (fun _ => ?_) ?_|refine s1 (fun _ => ?_) ?_|refine s2 (fun _ => ?_) ?_|refine s3 (fun _ => ?_) ?_|refine Fine.bind (by first|exact r1|exact r2|exact r3|exact r4|exact r5|exact r6|exact r7|exact r8|exact r9) (fun _ _ _ _ _ => ?_))
  · refine Fine.bind (by (first|exact r1|exact r2|exact r3|exact r4|exact r5|exact r6|exact r7|exact r8|exact r9)) (fun _ _ _ _ _ => ?_)
    exact piped_fine H _ _ _ (by omega) (by omega) (by omega)
theorem unary_fine (i : Nat) (o : Int) (hi : i ≤ ws.length) (hn : 4 * (ws.length - i) + 1 ≤ n) : Fine (ErrOk ws en) (i + 1) ws.length (unaryZ ws en rc i o) := by
  unfold unaryZ; repeat (first|assumption|exact q1|exact q2|exact q3|exact q4|exact q5|exact q6|exact q7|exact q8|exact q9|exact qa|exact qb|refine Fine.is (fun _ => ?_) ?_|refine s1 (fun _ => ?_) ?_|refine s2 (fun _ => ?_) ?_|refine s3 (fun _ => ?_) ?_|refine Fine.bind (by first|exact r1|exact r2|exact r3|exact r4|exact r5|exact r6|exact r7|exact r8|exact r9) (fun _ _ _ _ _ => ?_))
omit H in
theorem next_lt {i : Nat} {r : Int × Int × Int} (h : nextZ ws i = some r) : i < ws.length := by
  unfold nextZ at h
  obtain ⟨b, hb, _⟩ := Option.map_eq_some_iff.mp h
  have g := List.find?_some (p := fun b : ByteArray × Int × Int × Int => isZ ws i b.1) hb
  exact is_lt g
theorem climb_fine (least : Int) : ∀ (k : Nat) (l : SN) (most : Int) (i : Nat) (o : Int) (lo : Nat), i ≤ ws.length → ws.length - i < k → 4 * (ws.length - i) ≤ n + 2 → lo ≤ i → Fine (ErrOk ws en) lo ws.length (climbZ ws en rc least k l most i o)
  | 0, _, _, _, _, _, _, h, _, _ => by omega
  | k + 1, l, most, i, o, lo, hi, h, hn, hl => by
    unfold climbZ
    split
    · repeat (first|assumption|exact q1|exact q2|exact q3|exact q4|exact q5|exact q6|exact q7|exact q8|exact q9|exact qa|exact qb|refine Fine.is (fun _ => ?_) ?_|refine s1 (fun _ => ?_) ?_|refine s2 (fun _ => ?_) ?_|refine s3 (fun _ => ?_) ?_|refine Fine.bind (by first|exact r1|exact r2|exact r3|exact r4|exact r5|exact r6|exact r7|exact r8|exact r9) (fun _ _ _ _ _ => ?_))
    · rename_i g
      have := next_lt g
      refine Fine.ite (by repeat (first|assumption|exact q1|exact q2|exact q3|exact q4|exact q5|exact q6|exact q7|exact q8|exact q9|exact qa|exact qb|refine Fine.is (fun _ => ?_) ?_|refine s1 (fun _ => ?_) ?_|refine s2 (fun _ => ?_) ?_|refine s3 (fun _ => ?_) ?_|refine Fine.bind (by first|exact r1|exact r2|exact r3|exact r4|exact r5|exact r6|exact r7|exact r8|exact r9) (fun _ _ _ _ _ => ?_))) ?_
      refine Fine.bind (by (first|exact r1|exact r2|exact r3|exact r4|exact r5|exact r6|exact r7|exact r8|exact r9)) (fun _ _ _ _ _ => ?_)
      refine Fine.bind (by (first|exact r1|exact r2|exact r3|exact r4|exact r5|exact r6|exact r7|exact r8|exact r9)) (fun _ _ _ _ _ => ?_)
      exact climb_fine least k _ _ _ _ _ (by omega) (by omega) (by omega) (by omega)
theorem join_fine (a : Int) : ∀ (k : Nat) (l : List SN) (i : Nat) (o : Int) (lo : Nat), i ≤ ws.length → ws.length - i < k → 4 * (ws.length - i) + 3 ≤ n → lo ≤ i → Fine (ErrOk ws en) lo ws.length (joinZ ws en rc a k l i o)
  | 0, _, _, _, _, _, h, _, _ => by omega
  | k + 1, l, i, o, lo, hi, h, hn, hl => by
    unfold joinZ
    refine Fine.bind (by (first|exact r1|exact r2|exact r3|exact r4|exact r5|exact r6|exact r7|exact r8|exact r9)) (fun _ _ _ _ _ => ?_)
    refine Fine.kd (by decide) (fun _ => ?_) (by repeat (first|assumption|exact q1|exact q2|exact q3|exact q4|exact q5|exact q6|exact q7|exact q8|exact q9|exact qa|exact qb|refine Fine.is (fun _ => ?_) ?_|refine s1 (fun _ => ?_) ?_|refine s2 (fun _ => ?_) ?_|refine s3 (fun _ => ?_) ?_|refine Fine.bind (by first|exact r1|exact r2|exact r3|exact r4|exact r5|exact r6|exact r7|exact r8|exact r9) (fun _ _ _ _ _ => ?_)))
    exact join_fine a k _ _ _ _ (by omega) (by omega) (by omega) (by omega)
theorem text_fine {lo : Nat} (k i : Nat) (o : Int) (hi : i ≤ ws.length) (hk : ws.length - i ≤ k) (hn : 4 * (ws.length - i) ≤ n + 1) (hl : lo ≤ i + 1) : Fine (ErrOk ws en) lo ws.length (textN ws en rc k i o) := by
  unfold textN
  refine Fine.kd (by decide) (fun _ => by repeat (first|assumption|exact q1|exact q2|exact q3|exact q4|exact q5|exact q6|exact q7|exact q8|exact q9|exact qa|exact qb|refine Fine.is (fun _ => ?_) ?_|refine s1 (fun _ => ?_) ?_|refine s2 (fun _ => ?_) ?_|refine s3 (fun _ => ?_) ?_|refine Fine.bind (by first|exact r1|exact r2|exact r3|exact r4|exact r5|exact r6|exact r7|exact r8|exact r9) (fun _ _ _ _ _ => ?_))) ?_
  refine Fine.kd (by decide) (fun _ => ?_) (by repeat (first|assumption|exact q1|exact q2|exact q3|exact q4|exact q5|exact q6|exact q7|exact q8|exact q9|exact qa|exact qb|refine Fine.is (fun _ => ?_) ?_|refine s1 (fun _ => ?_) ?_|refine s2 (fun _ => ?_) ?_|refine s3 (fun _ => ?_) ?_|refine Fine.bind (by first|exact r1|exact r2|exact r3|exact r4|exact r5|exact r6|exact r7|exact r8|exact r9) (fun _ _ _ _ _ => ?_)))
  refine Fine.bind (by (first|exact r1|exact r2|exact r3|exact r4|exact r5|exact r6|exact r7|exact r8|exact r9)) (fun _ _ _ _ _ => ?_)
  exact join_fine H _ k _ _ _ _ (by omega) (by omega) (by omega) (by omega)
theorem bracket_fine {lo : Nat} (l : SN) (i : Nat) (o : Int) (hi : i < ws.length) (hn : 4 * (ws.length - i) ≤ n + 1) (hl : lo ≤ i + 1) : Fine (ErrOk ws en) lo ws.length (bracketZ ws en rc l i o) := by
  unfold bracketZ
  refine Fine.bind (by (first|exact r1|exact r2|exact r3|exact r4|exact r5|exact r6|exact r7|exact r8|exact r9)) (fun _ _ _ _ _ => ?_)
  refine Fine.is (fun _ => by repeat (first|assumption|exact q1|exact q2|exact q3|exact q4|exact q5|exact q6|exact q7|exact q8|exact q9|exact qa|exact qb|refine Fine.is (fun _ => ?_) ?_|refine s1 (fun _ => ?_) ?_|refine s2 (fun _ => ?_) ?_|refine s3 (fun _ => ?_) ?_|refine Fine.bind (by first|exact r1|exact r2|exact r3|exact r4|exact r5|exact r6|exact r7|exact r8|exact r9) (fun _ _ _ _ _ => ?_))) ?_
  refine Fine.is (fun _ => by repeat (first|assumption|exact q1|exact q2|exact q3|exact q4|exact q5|exact q6|exact q7|exact q8|exact q9|exact qa|exact qb|refine Fine.is (fun _ => ?_) ?_|refine s1 (fun _ => ?_) ?_|refine s2 (fun _ => ?_) ?_|refine s3 (fun _ => ?_) ?_|refine Fine.bind (by first|exact r1|exact r2|exact r3|exact r4|exact r5|exact r6|exact r7|exact r8|exact r9) (fun _ _ _ _ _ => ?_))) ?_
  refine Fine.bind (by (first|exact r1|exact r2|exact r3|exact r4|exact r5|exact r6|exact r7|exact r8|exact r9)) (fun _ _ _ _ _ => ?_)
  refine Fine.is (fun _ => by repeat (first|assumption|exact q1|exact q2|exact q3|exact q4|exact q5|exact q6|exact q7|exact q8|exact q9|exact qa|exact qb|refine Fine.is (fun _ => ?_) ?_|refine s1 (fun _ => ?_) ?_|refine s2 (fun _ => ?_) ?_|refine s3 (fun _ => ?_) ?_|refine Fine.bind (by first|exact r1|exact r2|exact r3|exact r4|exact r5|exact r6|exact r7|exact r8|exact r9) (fun _ _ _ _ _ => ?_))) ?_
  refine Fine.bind (by (first|exact r1|exact r2|exact r3|exact r4|exact r5|exact r6|exact r7|exact r8|exact r9)) (fun _ i5 _ _ _ => ?_)
  refine Fine.bind (lo := i5) (by repeat (first|assumption|exact q1|exact q2|exact q3|exact q4|exact q5|exact q6|exact q7|exact q8|exact q9|exact qa|exact qb|refine Fine.is (fun _ => ?_) ?_|refine s1 (fun _ => ?_) ?_|refine s2 (fun _ => ?_) ?_|refine s3 (fun _ => ?_) ?_|refine Fine.bind (by first|exact r1|exact r2|exact r3|exact r4|exact r5|exact r6|exact r7|exact r8|exact r9) (fun _ _ _ _ _ => ?_))) (fun _ _ _ _ _ => ?_)
  repeat (first|assumption|exact q1|exact q2|exact q3|exact q4|exact q5|exact q6|exact q7|exact q8|exact q9|exact qa|exact qb|refine Fine.is (fun _ => ?_) ?_|refine s1 (fun _ => ?_) ?_|refine s2 (fun _ => ?_) ?_|refine s3 (fun _ => ?_) ?_|refine Fine.bind (by first|exact r1|exact r2|exact r3|exact r4|exact r5|exact r6|exact r7|exact r8|exact r9) (fun _ _ _ _ _ => ?_))
theorem posts_fine (k0 : Nat) : ∀ (k : Nat) (l : SN) (i : Nat) (o : Int) (lo : Nat), i ≤ ws.length → ws.length - i < k → ws.length - i ≤ k0 → 4 * (ws.length - i) ≤ n + 1 → lo ≤ i → Fine (ErrOk ws en) lo ws.length (postsZ ws en rc k0 k l i o)
  | 0, _, _, _, _, _, h, _, _, _ => by omega
  | k + 1, l, i, o, lo, hi, h, h0, hn, hl => by
    unfold postsZ
    refine Fine.kd (by decide) (fun _ => ?_) ?_
    · exact posts_fine k0 k _ _ _ _ (by omega) (by omega) (by omega) (by omega) (by omega)
    refine Fine.is (fun _ => ?_) ?_
    · exact (text_fine H k0 _ _ (by omega) (by omega) (by omega) (Nat.le_refl _)).bind fun _ _ _ _ _ => posts_fine k0 k _ _ _ _ (by omega) (by omega) (by omega) (by omega) (by omega)
    refine Fine.is (fun _ => ?_) ?_
    · exact (bracket_fine H _ _ _ (by omega) (by omega) (Nat.le_refl _)).bind fun _ _ _ _ _ => posts_fine k0 k _ _ _ _ (by omega) (by omega) (by omega) (by omega) (by omega)
    refine Fine.is (fun _ => ?_) (by repeat (first|assumption|exact q1|exact q2|exact q3|exact q4|exact q5|exact q6|exact q7|exact q8|exact q9|exact qa|exact qb|refine Fine.is (fun _ => ?_) ?_|refine s1 (fun _ => ?_) ?_|refine s2 (fun _ => ?_) ?_|refine s3 (fun _ => ?_) ?_|refine Fine.bind (by first|exact r1|exact r2|exact r3|exact r4|exact r5|exact r6|exact r7|exact r8|exact r9) (fun _ _ _ _ _ => ?_)))
    exact posts_fine k0 k _ _ _ _ (by omega) (by omega) (by omega) (by omega) (by omega)
theorem self_fine {lo : Nat} (k i : Nat) (o : Int) (hi : i < ws.length) (hk : ws.length - i ≤ k) (hn : 4 * (ws.length - i) ≤ n + 4) (hl : lo ≤ i + 1) : Fine (ErrOk ws en) lo ws.length (selfZ ws en rc k i o) := by
  unfold selfZ
  refine Fine.kd2 (by decide) (by decide) (fun _ => ?_) (by repeat (first|assumption|exact q1|exact q2|exact q3|exact q4|exact q5|exact q6|exact q7|exact q8|exact q9|exact qa|exact qb|refine Fine.is (fun _ => ?_) ?_|refine s1 (fun _ => ?_) ?_|refine s2 (fun _ => ?_) ?_|refine s3 (fun _ => ?_) ?_|refine Fine.bind (by first|exact r1|exact r2|exact r3|exact r4|exact r5|exact r6|exact r7|exact r8|exact r9) (fun _ _ _ _ _ => ?_)))
  exact (text_fine H k _ _ (by omega) (by omega) (by omega) (Nat.le_refl _)).bind fun _ _ _ _ _ => by repeat (first|assumption|exact q1|exact q2|exact q3|exact q4|exact q5|exact q6|exact q7|exact q8|exact q9|exact qa|exact qb|refine Fine.is (fun _ => ?_) ?_|refine s1 (fun _ => ?_) ?_|refine s2 (fun _ => ?_) ?_|refine s3 (fun _ => ?_) ?_|refine Fine.bind (by first|exact r1|exact r2|exact r3|exact r4|exact r5|exact r6|exact r7|exact r8|exact r9) (fun _ _ _ _ _ => ?_))
theorem inner_fine {lo : Nat} (i : Nat) (o : Int) (hi : i < ws.length) (hn : 4 * (ws.length - i) ≤ n + 1) (hl : lo ≤ i + 1) : Fine (ErrOk ws en) lo ws.length (innerZ ws en rc i o) := by
  unfold innerZ; repeat (first|assumption|exact q1|exact q2|exact q3|exact q4|exact q5|exact q6|exact q7|exact q8|exact q9|exact qa|exact qb|refine Fine.is (fun _ => ?_) ?_|refine s1 (fun _ => ?_) ?_|refine s2 (fun _ => ?_) ?_|refine s3 (fun _ => ?_) ?_|refine Fine.bind (by first|exact r1|exact r2|exact r3|exact r4|exact r5|exact r6|exact r7|exact r8|exact r9) (fun _ _ _ _ _ => ?_))
theorem list_fine {lo : Nat} (i : Nat) (o : Int) (hi : i < ws.length) (hn : 4 * (ws.length - i) ≤ n + 1) (hl : lo ≤ i + 1) : Fine (ErrOk ws en) lo ws.length (listZ ws en rc i o) := by
  unfold listZ
  refine Fine.bind (by (first|exact r1|exact r2|exact r3|exact r4|exact r5|exact r6|exact r7|exact r8|exact r9)) (fun _ i1 _ _ _ => ?_)
  refine Fine.bind (lo := i1) (by repeat (first|assumption|exact q1|exact q2|exact q3|exact q4|exact q5|exact q6|exact q7|exact q8|exact q9|exact qa|exact qb|refine Fine.is (fun _ => ?_) ?_|refine s1 (fun _ => ?_) ?_|refine s2 (fun _ => ?_) ?_|refine s3 (fun _ => ?_) ?_|refine Fine.bind (by first|exact r1|exact r2|exact r3|exact r4|exact r5|exact r6|exact r7|exact r8|exact r9) (fun _ _ _ _ _ => ?_))) (fun _ _ _ _ _ => ?_)
  repeat (first|assumption|exact q1|exact q2|exact q3|exact q4|exact q5|exact q6|exact q7|exact q8|exact q9|exact qa|exact qb|refine Fine.is (fun _ => ?_) ?_|refine s1 (fun _ => ?_) ?_|refine s2 (fun _ => ?_) ?_|refine s3 (fun _ => ?_) ?_|refine Fine.bind (by first|exact r1|exact r2|exact r3|exact r4|exact r5|exact r6|exact r7|exact r8|exact r9) (fun _ _ _ _ _ => ?_))
theorem value_fine {lo : Nat} (i : Nat) (o : Int) (hi : i ≤ ws.length) (hn : 4 * (ws.length - i) + 2 ≤ n) (hl : lo ≤ i + 1) : Fine (ErrOk ws en) lo ws.length (valueZ rc i o) := by
  unfold valueZ; repeat (first|assumption|exact q1|exact q2|exact q3|exact q4|exact q5|exact q6|exact q7|exact q8|exact q9|exact qa|exact qb|refine Fine.is (fun _ => ?_) ?_|refine s1 (fun _ => ?_) ?_|refine s2 (fun _ => ?_) ?_|refine s3 (fun _ => ?_) ?_|refine Fine.bind (by first|exact r1|exact r2|exact r3|exact r4|exact r5|exact r6|exact r7|exact r8|exact r9) (fun _ _ _ _ _ => ?_))
theorem entry_fine {lo : Nat} (k i : Nat) (o : Int) (hi : i ≤ ws.length) (hk : ws.length - i ≤ k) (hn : 4 * (ws.length - i) ≤ n + 1) (hl : lo ≤ i + 1) : Fine (ErrOk ws en) lo ws.length (entryZ ws en rc k i o) := by
  unfold entryZ
  refine Fine.kd3 (by decide) (by decide) (by decide) (fun _ => ?_) ?_
  · refine Fine.is (fun _ => ?_) (by repeat (first|assumption|exact q1|exact q2|exact q3|exact q4|exact q5|exact q6|exact q7|exact q8|exact q9|exact qa|exact qb|refine Fine.is (fun _ => ?_) ?_|refine s1 (fun _ => ?_) ?_|refine s2 (fun _ => ?_) ?_|refine s3 (fun _ => ?_) ?_|refine Fine.bind (by first|exact r1|exact r2|exact r3|exact r4|exact r5|exact r6|exact r7|exact r8|exact r9) (fun _ _ _ _ _ => ?_)))
    exact (value_fine H _ _ (by omega) (by omega) (Nat.le_refl _)).bind fun _ _ _ _ _ => by repeat (first|assumption|exact q1|exact q2|exact q3|exact q4|exact q5|exact q6|exact q7|exact q8|exact q9|exact qa|exact qb|refine Fine.is (fun _ => ?_) ?_|refine s1 (fun _ => ?_) ?_|refine s2 (fun _ => ?_) ?_|refine s3 (fun _ => ?_) ?_|refine Fine.bind (by first|exact r1|exact r2|exact r3|exact r4|exact r5|exact r6|exact r7|exact r8|exact r9) (fun _ _ _ _ _ => ?_))
  refine Fine.kd (by decide) (fun _ => ?_) ?_
  · refine Fine.is (fun _ => ?_) (by repeat (first|assumption|exact q1|exact q2|exact q3|exact q4|exact q5|exact q6|exact q7|exact q8|exact q9|exact qa|exact qb|refine Fine.is (fun _ => ?_) ?_|refine s1 (fun _ => ?_) ?_|refine s2 (fun _ => ?_) ?_|refine s3 (fun _ => ?_) ?_|refine Fine.bind (by first|exact r1|exact r2|exact r3|exact r4|exact r5|exact r6|exact r7|exact r8|exact r9) (fun _ _ _ _ _ => ?_)))
    exact (value_fine H _ _ (by omega) (by omega) (Nat.le_refl _)).bind fun _ _ _ _ _ => by repeat (first|assumption|exact q1|exact q2|exact q3|exact q4|exact q5|exact q6|exact q7|exact q8|exact q9|exact qa|exact qb|refine Fine.is (fun _ => ?_) ?_|refine s1 (fun _ => ?_) ?_|refine s2 (fun _ => ?_) ?_|refine s3 (fun _ => ?_) ?_|refine Fine.bind (by first|exact r1|exact r2|exact r3|exact r4|exact r5|exact r6|exact r7|exact r8|exact r9) (fun _ _ _ _ _ => ?_))
  refine Fine.bind (lo := i + 1) ?_ (fun _ _ _ _ _ => ?_)
  · refine Fine.kd (by decide) (fun _ => text_fine H k _ _ (by omega) (by omega) (by omega) (by omega)) ?_
    exact Fine.is (fun _ => inner_fine H _ _ (by omega) (by omega) (by omega)) (by repeat (first|assumption|exact q1|exact q2|exact q3|exact q4|exact q5|exact q6|exact q7|exact q8|exact q9|exact qa|exact qb|refine Fine.is (fun _ => ?_) ?_|refine s1 (fun _ => ?_) ?_|refine s2 (fun _ => ?_) ?_|refine s3 (fun _ => ?_) ?_|refine Fine.bind (by first|exact r1|exact r2|exact r3|exact r4|exact r5|exact r6|exact r7|exact r8|exact r9) (fun _ _ _ _ _ => ?_)))
  refine Fine.bind (by (first|exact r1|exact r2|exact r3|exact r4|exact r5|exact r6|exact r7|exact r8|exact r9)) (fun _ _ _ _ _ => ?_)
  exact (value_fine H _ _ (by omega) (by omega) (Nat.le_refl _)).bind fun _ _ _ _ _ => by repeat (first|assumption|exact q1|exact q2|exact q3|exact q4|exact q5|exact q6|exact q7|exact q8|exact q9|exact qa|exact qb|refine Fine.is (fun _ => ?_) ?_|refine s1 (fun _ => ?_) ?_|refine s2 (fun _ => ?_) ?_|refine s3 (fun _ => ?_) ?_|refine Fine.bind (by first|exact r1|exact r2|exact r3|exact r4|exact r5|exact r6|exact r7|exact r8|exact r9) (fun _ _ _ _ _ => ?_))
theorem entries_fine (k0 : Nat) : ∀ (k : Nat) (l : List SN) (i : Nat) (o : Int) (lo : Nat), i ≤ ws.length → ws.length - i < k → ws.length - i ≤ k0 → 4 * (ws.length - i) ≤ n + 1 → lo ≤ i → Fine (ErrOk ws en) lo ws.length (entriesZ ws en rc k0 k l i o)
  | 0, _, _, _, _, _, h, _, _, _ => by omega
  | k + 1, l, i, o, lo, hi, h, h0, hn, hl => by
    unfold entriesZ
    refine (entry_fine H k0 i o hi h0 hn (Nat.le_refl _)).bind fun _ _ _ _ _ => ?_
    refine Fine.is (fun _ => ?_) (by repeat (first|assumption|exact q1|exact q2|exact q3|exact q4|exact q5|exact q6|exact q7|exact q8|exact q9|exact qa|exact qb|refine Fine.is (fun _ => ?_) ?_|refine s1 (fun _ => ?_) ?_|refine s2 (fun _ => ?_) ?_|refine s3 (fun _ => ?_) ?_|refine Fine.bind (by first|exact r1|exact r2|exact r3|exact r4|exact r5|exact r6|exact r7|exact r8|exact r9) (fun _ _ _ _ _ => ?_)))
    exact entries_fine k0 k _ _ _ _ (by omega) (by omega) (by omega) (by omega) (by omega)
theorem record_fine {lo : Nat} (k i : Nat) (o : Int) (hi : i < ws.length) (hk : ws.length - i ≤ k) (hn : 4 * (ws.length - i) ≤ n + 1) (hl : lo ≤ i + 1) : Fine (ErrOk ws en) lo ws.length (recordZ ws en rc k i o) := by
  unfold recordZ
  refine Fine.bind (by (first|exact r1|exact r2|exact r3|exact r4|exact r5|exact r6|exact r7|exact r8|exact r9)) (fun _ i1 _ _ _ => ?_)
  refine Fine.bind (lo := i1) ?_ (fun _ _ _ _ _ => ?_)
  · exact Fine.is (fun _ => by repeat (first|assumption|exact q1|exact q2|exact q3|exact q4|exact q5|exact q6|exact q7|exact q8|exact q9|exact qa|exact qb|refine Fine.is (fun _ => ?_) ?_|refine s1 (fun _ => ?_) ?_|refine s2 (fun _ => ?_) ?_|refine s3 (fun _ => ?_) ?_|refine Fine.bind (by first|exact r1|exact r2|exact r3|exact r4|exact r5|exact r6|exact r7|exact r8|exact r9) (fun _ _ _ _ _ => ?_))) (entries_fine H k k _ _ _ _ (by omega) (by omega) (by omega) (by omega) (by omega))
  repeat (first|assumption|exact q1|exact q2|exact q3|exact q4|exact q5|exact q6|exact q7|exact q8|exact q9|exact qa|exact qb|refine Fine.is (fun _ => ?_) ?_|refine s1 (fun _ => ?_) ?_|refine s2 (fun _ => ?_) ?_|refine s3 (fun _ => ?_) ?_|refine Fine.bind (by first|exact r1|exact r2|exact r3|exact r4|exact r5|exact r6|exact r7|exact r8|exact r9) (fun _ _ _ _ _ => ?_))
theorem branch_fine (a : Int) (i : Nat) (o : Int) (hi : i ≤ ws.length) (hn : 4 * (ws.length - i) + 3 ≤ n) : Fine (ErrOk ws en) (i + 1) ws.length (branchZ ws en rc a i o) := by
  unfold branchZ
  refine Fine.bind (by (first|exact r1|exact r2|exact r3|exact r4|exact r5|exact r6|exact r7|exact r8|exact r9)) (fun _ _ _ _ _ => ?_)
  refine Fine.bind (by (first|exact r1|exact r2|exact r3|exact r4|exact r5|exact r6|exact r7|exact r8|exact r9)) (fun _ _ _ _ _ => ?_)
  refine Fine.bind (by (first|exact r1|exact r2|exact r3|exact r4|exact r5|exact r6|exact r7|exact r8|exact r9)) (fun _ i3 _ _ _ => ?_)
  refine Fine.is (fun _ => by repeat (first|assumption|exact q1|exact q2|exact q3|exact q4|exact q5|exact q6|exact q7|exact q8|exact q9|exact qa|exact qb|refine Fine.is (fun _ => ?_) ?_|refine s1 (fun _ => ?_) ?_|refine s2 (fun _ => ?_) ?_|refine s3 (fun _ => ?_) ?_|refine Fine.bind (by first|exact r1|exact r2|exact r3|exact r4|exact r5|exact r6|exact r7|exact r8|exact r9) (fun _ _ _ _ _ => ?_))) ?_
  refine Fine.bind (lo := i3) (by repeat (first|assumption|exact q1|exact q2|exact q3|exact q4|exact q5|exact q6|exact q7|exact q8|exact q9|exact qa|exact qb|refine Fine.is (fun _ => ?_) ?_|refine s1 (fun _ => ?_) ?_|refine s2 (fun _ => ?_) ?_|refine s3 (fun _ => ?_) ?_|refine Fine.bind (by first|exact r1|exact r2|exact r3|exact r4|exact r5|exact r6|exact r7|exact r8|exact r9) (fun _ _ _ _ _ => ?_))) (fun _ _ _ _ _ => ?_)
  repeat (first|assumption|exact q1|exact q2|exact q3|exact q4|exact q5|exact q6|exact q7|exact q8|exact q9|exact qa|exact qb|refine Fine.is (fun _ => ?_) ?_|refine s1 (fun _ => ?_) ?_|refine s2 (fun _ => ?_) ?_|refine s3 (fun _ => ?_) ?_|refine Fine.bind (by first|exact r1|exact r2|exact r3|exact r4|exact r5|exact r6|exact r7|exact r8|exact r9) (fun _ _ _ _ _ => ?_))
theorem if_fine {lo : Nat} (i : Nat) (o : Int) (hi : i < ws.length) (hn : 4 * (ws.length - i) ≤ n) (hl : lo ≤ i + 1) : Fine (ErrOk ws en) lo ws.length (ifZ ws en rc i o) := by
  unfold ifZ; repeat (first|assumption|exact q1|exact q2|exact q3|exact q4|exact q5|exact q6|exact q7|exact q8|exact q9|exact qa|exact qb|refine Fine.is (fun _ => ?_) ?_|refine s1 (fun _ => ?_) ?_|refine s2 (fun _ => ?_) ?_|refine s3 (fun _ => ?_) ?_|refine Fine.bind (by first|exact r1|exact r2|exact r3|exact r4|exact r5|exact r6|exact r7|exact r8|exact r9) (fun _ _ _ _ _ => ?_))
theorem try_fine {lo : Nat} (i : Nat) (o : Int) (hi : i < ws.length) (hn : 4 * (ws.length - i) ≤ n) (hl : lo ≤ i + 1) : Fine (ErrOk ws en) lo ws.length (tryZ ws en rc i o) := by
  unfold tryZ; repeat (first|assumption|exact q1|exact q2|exact q3|exact q4|exact q5|exact q6|exact q7|exact q8|exact q9|exact qa|exact qb|refine Fine.is (fun _ => ?_) ?_|refine s1 (fun _ => ?_) ?_|refine s2 (fun _ => ?_) ?_|refine s3 (fun _ => ?_) ?_|refine Fine.bind (by first|exact r1|exact r2|exact r3|exact r4|exact r5|exact r6|exact r7|exact r8|exact r9) (fun _ _ _ _ _ => ?_))
theorem head_fine {lo : Nat} (i : Nat) (o : Int) (hi : i < ws.length) (hn : 4 * (ws.length - i) ≤ n) (hl : lo ≤ i + 1) : Fine (ErrOk ws en) lo ws.length (headZ ws en rc i o) := by
  unfold headZ; repeat (first|assumption|exact q1|exact q2|exact q3|exact q4|exact q5|exact q6|exact q7|exact q8|exact q9|exact qa|exact qb|refine Fine.is (fun _ => ?_) ?_|refine s1 (fun _ => ?_) ?_|refine s2 (fun _ => ?_) ?_|refine s3 (fun _ => ?_) ?_|refine Fine.bind (by first|exact r1|exact r2|exact r3|exact r4|exact r5|exact r6|exact r7|exact r8|exact r9) (fun _ _ _ _ _ => ?_))
theorem reduce_fine {lo : Nat} (i : Nat) (o : Int) (hi : i < ws.length) (hn : 4 * (ws.length - i) ≤ n) (hl : lo ≤ i + 1) : Fine (ErrOk ws en) lo ws.length (reduceZ ws en rc i o) := by
  unfold reduceZ; exact (head_fine H i o hi hn (Nat.le_refl _)).bind fun _ _ _ _ _ => by repeat (first|assumption|exact q1|exact q2|exact q3|exact q4|exact q5|exact q6|exact q7|exact q8|exact q9|exact qa|exact qb|refine Fine.is (fun _ => ?_) ?_|refine s1 (fun _ => ?_) ?_|refine s2 (fun _ => ?_) ?_|refine s3 (fun _ => ?_) ?_|refine Fine.bind (by first|exact r1|exact r2|exact r3|exact r4|exact r5|exact r6|exact r7|exact r8|exact r9) (fun _ _ _ _ _ => ?_))
theorem foreach_fine {lo : Nat} (i : Nat) (o : Int) (hi : i < ws.length) (hn : 4 * (ws.length - i) ≤ n) (hl : lo ≤ i + 1) : Fine (ErrOk ws en) lo ws.length (foreachZ ws en rc i o) := by
  unfold foreachZ
  refine (head_fine H i o hi hn (Nat.le_refl _)).bind fun _ j _ _ _ => ?_
  refine Fine.bind (lo := j) (by repeat (first|assumption|exact q1|exact q2|exact q3|exact q4|exact q5|exact q6|exact q7|exact q8|exact q9|exact qa|exact qb|refine Fine.is (fun _ => ?_) ?_|refine s1 (fun _ => ?_) ?_|refine s2 (fun _ => ?_) ?_|refine s3 (fun _ => ?_) ?_|refine Fine.bind (by first|exact r1|exact r2|exact r3|exact r4|exact r5|exact r6|exact r7|exact r8|exact r9) (fun _ _ _ _ _ => ?_))) (fun _ _ _ _ _ => ?_)
  repeat (first|assumption|exact q1|exact q2|exact q3|exact q4|exact q5|exact q6|exact q7|exact q8|exact q9|exact qa|exact qb|refine Fine.is (fun _ => ?_) ?_|refine s1 (fun _ => ?_) ?_|refine s2 (fun _ => ?_) ?_|refine s3 (fun _ => ?_) ?_|refine Fine.bind (by first|exact r1|exact r2|exact r3|exact r4|exact r5|exact r6|exact r7|exact r8|exact r9) (fun _ _ _ _ _ => ?_))
omit H in
theorem leave_fine {lo : Nat} (i : Nat) (o : Int) (hl : lo ≤ i + 1) : Fine (ErrOk ws en) lo ws.length (leaveZ ws en i o) := by
  unfold leaveZ; repeat (first|assumption|exact q1|exact q2|exact q3|exact q4|exact q5|exact q6|exact q7|exact q8|exact q9|exact qa|exact qb|refine Fine.is (fun _ => ?_) ?_|refine s1 (fun _ => ?_) ?_|refine s2 (fun _ => ?_) ?_|refine s3 (fun _ => ?_) ?_|refine Fine.bind (by first|exact r1|exact r2|exact r3|exact r4|exact r5|exact r6|exact r7|exact r8|exact r9) (fun _ _ _ _ _ => ?_))
theorem args_fine : ∀ (k : Nat) (l : List SN) (i : Nat) (o : Int) (lo : Nat), i ≤ ws.length → ws.length - i < k → 4 * (ws.length - i) ≤ n + 1 → lo ≤ i → Fine (ErrOk ws en) lo ws.length (argsZ ws rc k l i o)
  | 0, _, _, _, _, _, h, _, _ => by omega
  | k + 1, l, i, o, lo, hi, h, hn, hl => by
    unfold argsZ
    refine Fine.is (fun _ => ?_) (by repeat (first|assumption|exact q1|exact q2|exact q3|exact q4|exact q5|exact q6|exact q7|exact q8|exact q9|exact qa|exact qb|refine Fine.is (fun _ => ?_) ?_|refine s1 (fun _ => ?_) ?_|refine s2 (fun _ => ?_) ?_|refine s3 (fun _ => ?_) ?_|refine Fine.bind (by first|exact r1|exact r2|exact r3|exact r4|exact r5|exact r6|exact r7|exact r8|exact r9) (fun _ _ _ _ _ => ?_)))
    refine Fine.bind (by (first|exact r1|exact r2|exact r3|exact r4|exact r5|exact r6|exact r7|exact r8|exact r9)) (fun _ _ _ _ _ => ?_)
    exact args_fine k _ _ _ _ (by omega) (by omega) (by omega) (by omega)
theorem call_fine {lo : Nat} (k i : Nat) (o : Int) (hi : i < ws.length) (hk : ws.length - i ≤ k) (hn : 4 * (ws.length - i) ≤ n + 1) (hl : lo ≤ i + 1) : Fine (ErrOk ws en) lo ws.length (callZ ws en rc k i o) := by
  unfold callZ
  refine Fine.bind (by (first|exact r1|exact r2|exact r3|exact r4|exact r5|exact r6|exact r7|exact r8|exact r9)) (fun _ _ _ _ _ => ?_)
  refine Fine.is (fun _ => ?_) (by repeat (first|assumption|exact q1|exact q2|exact q3|exact q4|exact q5|exact q6|exact q7|exact q8|exact q9|exact qa|exact qb|refine Fine.is (fun _ => ?_) ?_|refine s1 (fun _ => ?_) ?_|refine s2 (fun _ => ?_) ?_|refine s3 (fun _ => ?_) ?_|refine Fine.bind (by first|exact r1|exact r2|exact r3|exact r4|exact r5|exact r6|exact r7|exact r8|exact r9) (fun _ _ _ _ _ => ?_)))
  refine Fine.bind (by (first|exact r1|exact r2|exact r3|exact r4|exact r5|exact r6|exact r7|exact r8|exact r9)) (fun _ _ _ _ _ => ?_)
  refine Fine.bind (by (first|exact r1|exact r2|exact r3|exact r4|exact r5|exact r6|exact r7|exact r8|exact r9)) (fun _ _ _ _ _ => ?_)
  exact (args_fine H k _ _ _ _ (by omega) (by omega) (by omega) (Nat.le_refl _)).bind fun _ _ _ _ _ => by repeat (first|assumption|exact q1|exact q2|exact q3|exact q4|exact q5|exact q6|exact q7|exact q8|exact q9|exact qa|exact qb|refine Fine.is (fun _ => ?_) ?_|refine s1 (fun _ => ?_) ?_|refine s2 (fun _ => ?_) ?_|refine s3 (fun _ => ?_) ?_|refine Fine.bind (by first|exact r1|exact r2|exact r3|exact r4|exact r5|exact r6|exact r7|exact r8|exact r9) (fun _ _ _ _ _ => ?_))
theorem term_fine {lo : Nat} (k i : Nat) (o : Int) (hi : i ≤ ws.length) (hk : ws.length - i ≤ k) (hn : 4 * (ws.length - i) ≤ n) (hl : lo ≤ i + 1) : Fine (ErrOk ws en) lo ws.length (termZ ws en rc k i o) := by
  unfold termZ
  refine Fine.kd (by decide) (fun _ => by repeat (first|assumption|exact q1|exact q2|exact q3|exact q4|exact q5|exact q6|exact q7|exact q8|exact q9|exact qa|exact qb|refine Fine.is (fun _ => ?_) ?_|refine s1 (fun _ => ?_) ?_|refine s2 (fun _ => ?_) ?_|refine s3 (fun _ => ?_) ?_|refine Fine.bind (by first|exact r1|exact r2|exact r3|exact r4|exact r5|exact r6|exact r7|exact r8|exact r9) (fun _ _ _ _ _ => ?_))) ?_
  refine Fine.kd (by decide) (fun _ => by repeat (first|assumption|exact q1|exact q2|exact q3|exact q4|exact q5|exact q6|exact q7|exact q8|exact q9|exact qa|exact qb|refine Fine.is (fun _ => ?_) ?_|refine s1 (fun _ => ?_) ?_|refine s2 (fun _ => ?_) ?_|refine s3 (fun _ => ?_) ?_|refine Fine.bind (by first|exact r1|exact r2|exact r3|exact r4|exact r5|exact r6|exact r7|exact r8|exact r9) (fun _ _ _ _ _ => ?_))) ?_
  refine Fine.kd2 (by decide) (by decide) (fun _ => text_fine H k i o hi hk (by omega) hl) ?_
  refine Fine.kd (by decide) (fun _ => by repeat (first|assumption|exact q1|exact q2|exact q3|exact q4|exact q5|exact q6|exact q7|exact q8|exact q9|exact qa|exact qb|refine Fine.is (fun _ => ?_) ?_|refine s1 (fun _ => ?_) ?_|refine s2 (fun _ => ?_) ?_|refine s3 (fun _ => ?_) ?_|refine Fine.bind (by first|exact r1|exact r2|exact r3|exact r4|exact r5|exact r6|exact r7|exact r8|exact r9) (fun _ _ _ _ _ => ?_))) ?_
  refine Fine.kd (by decide) (fun _ => call_fine H k i o (by omega) hk (by omega) hl) ?_
  refine Fine.kd2 (by decide) (by decide) (fun _ => ?_) (by repeat (first|assumption|exact q1|exact q2|exact q3|exact q4|exact q5|exact q6|exact q7|exact q8|exact q9|exact qa|exact qb|refine Fine.is (fun _ => ?_) ?_|refine s1 (fun _ => ?_) ?_|refine s2 (fun _ => ?_) ?_|refine s3 (fun _ => ?_) ?_|refine Fine.bind (by first|exact r1|exact r2|exact r3|exact r4|exact r5|exact r6|exact r7|exact r8|exact r9) (fun _ _ _ _ _ => ?_)))
  refine Fine.ite (self_fine H k i o (by omega) hk (by omega) hl) ?_
  refine Fine.ite (by repeat (first|assumption|exact q1|exact q2|exact q3|exact q4|exact q5|exact q6|exact q7|exact q8|exact q9|exact qa|exact qb|refine Fine.is (fun _ => ?_) ?_|refine s1 (fun _ => ?_) ?_|refine s2 (fun _ => ?_) ?_|refine s3 (fun _ => ?_) ?_|refine Fine.bind (by first|exact r1|exact r2|exact r3|exact r4|exact r5|exact r6|exact r7|exact r8|exact r9) (fun _ _ _ _ _ => ?_))) ?_
  refine Fine.ite (inner_fine H i o (by omega) (by omega) hl) ?_
  refine Fine.ite (list_fine H i o (by omega) (by omega) hl) ?_
  refine Fine.ite (record_fine H k i o (by omega) hk (by omega) hl) ?_
  refine Fine.ite (by unfold constZ; repeat (first|assumption|exact q1|exact q2|exact q3|exact q4|exact q5|exact q6|exact q7|exact q8|exact q9|exact qa|exact qb|refine Fine.is (fun _ => ?_) ?_|refine s1 (fun _ => ?_) ?_|refine s2 (fun _ => ?_) ?_|refine s3 (fun _ => ?_) ?_|refine Fine.bind (by first|exact r1|exact r2|exact r3|exact r4|exact r5|exact r6|exact r7|exact r8|exact r9) (fun _ _ _ _ _ => ?_))) ?_
  refine Fine.ite (if_fine H i o (by omega) (by omega) hl) ?_
  refine Fine.ite (try_fine H i o (by omega) (by omega) hl) ?_
  refine Fine.ite (reduce_fine H i o (by omega) (by omega) hl) ?_
  refine Fine.ite (foreach_fine H i o (by omega) (by omega) hl) ?_
  exact Fine.ite (leave_fine i o hl) (by repeat (first|assumption|exact q1|exact q2|exact q3|exact q4|exact q5|exact q6|exact q7|exact q8|exact q9|exact qa|exact qb|refine Fine.is (fun _ => ?_) ?_|refine s1 (fun _ => ?_) ?_|refine s2 (fun _ => ?_) ?_|refine s3 (fun _ => ?_) ?_|refine Fine.bind (by first|exact r1|exact r2|exact r3|exact r4|exact r5|exact r6|exact r7|exact r8|exact r9) (fun _ _ _ _ _ => ?_)))
theorem post_fine (k i : Nat) (o : Int) (hi : i ≤ ws.length) (hk : ws.length - i ≤ k) (hn : 4 * (ws.length - i) ≤ n) : Fine (ErrOk ws en) (i + 1) ws.length (postZ ws en rc k i o) := by
  unfold postZ
  exact (term_fine H k i o hi hk hn (Nat.le_refl _)).bind fun _ j _ _ _ => posts_fine H k k _ _ _ _ (by omega) (by omega) (by omega) (by omega) (by omega)
end

theorem go_good (ws : List Tok) (en : Int) : ∀ f, Good ws en f (goZ ws en f)
  | 0 => fun c i o hi hn => by cases c <;> simp only [need] at hn <;> omega
  | f + 1 => fun c i o hi hn => by
    have H := go_good ws en f
    cases c <;> simp only [need] at hn <;> simp only [adv, goZ]
    · exact pipe_fine H f i o hi (by omega) (by omega)
    · exact unary_fine H i o hi (by omega)
    · exact post_fine H f i o hi (by omega) (by omega)
    · exact climb_fine H _ f _ _ _ _ _ hi (by omega) (by omega) (by omega)
    · exact branch_fine H _ i o hi (by omega)
theorem go_some (ws : List Tok) (en : Int) : ∃ r, goZ ws en (4 * ws.length + 8) .pipe 0 0 = some r := by
  have h := go_good ws en (4 * ws.length + 8) .pipe 0 0 (by omega) (by simp only [need]; omega)
  match hg : goZ ws en (4 * ws.length + 8) .pipe 0 0, h with
  | some r, _ => exact ⟨r, rfl⟩
theorem go_end (ws : List Tok) (en : Int) : (∃ e, goZ ws en (4 * ws.length + 8) .pipe 0 0 = some (.error e) ∧ ErrOk ws en e) ∨ ∃ n j o, goZ ws en (4 * ws.length + 8) .pipe 0 0 = some (.ok (n, j, o)) ∧ 1 ≤ j ∧ j ≤ ws.length := by
  have h := go_good ws en (4 * ws.length + 8) .pipe 0 0 (by omega) (by simp only [need]; omega)
  match hg : goZ ws en (4 * ws.length + 8) .pipe 0 0, h with
  | some (.error e), h => exact Or.inl ⟨e, rfl, h⟩
  | some (.ok (n, j, o)), h => exact Or.inr ⟨n, j, o, rfl, h.1, h.2⟩
end Go.Proofs.YthlmhnlfcnpocaaDoor.U
