/- The lexer of the document's chapter 1 over lists of bytes: plain functions. -/
set_option linter.all false
namespace LexSpec
abbrev Bytes := List UInt8
def isLetter (c : UInt8) : Bool := (97 ≤ c && c ≤ 122) || (65 ≤ c && c ≤ 90)
def isDigit (c : UInt8) : Bool := 48 ≤ c && c ≤ 57
def isInner (c : UInt8) : Bool := isLetter c || isDigit c || c == 95
def isPlain (c : UInt8) : Bool := 32 ≤ c && c ≤ 126
def isBlank (c : UInt8) : Bool := c == 32 || c == 9 || c == 10
def spanN (p : UInt8 → Bool) (l : Bytes) : Nat := (l.takeWhile p).length
def nameOk (l : Bytes) : Bool := match l with
  | [] => false
  | c :: _ => isLetter c && decide (l.length ≤ 20) && decide (spanN isInner l = l.length)
def numVal (l : Bytes) : Nat := l.foldl (fun n c => 10 * n + (c.toNat - 48)) 0
def numberOk (l : Bytes) : Bool := match l with
  | [] => false
  | c :: _ => decide (spanN isDigit l = l.length ∧ ¬ (c.toNat = 48 ∧ ¬ l = [48]) ∧ l.length ≤ 13 ∧ numVal l ≤ 1099511627776)
def numberVal (l : Bytes) : Nat := if numberOk l then numVal l else 0
def escL (l : Bytes) : Bytes := l.flatMap (fun c => if c == 34 || c == 92 then [92, c] else [c])
def escaped (l : Bytes) : Bytes := 34 :: (escL l ++ [34])
def quoteOk (l : Bytes) : Bool := decide (l.length ≤ 400) && decide (spanN isPlain l = l.length)
/-- what follows an opening quote: the value, and the number of bytes up to and with the closing one -/
def quotedGo : Bytes → Option (Bytes × Nat)
  | [] => none
  | c :: r =>
    if isPlain c then
      if c == 34 then some ([], 1)
      else if c == 92 then
        match r with
        | [] => none
        | d :: r' => if d == 34 || d == 92 then (quotedGo r').map (fun x => (d :: x.1, x.2 + 2)) else none
      else (quotedGo r).map (fun x => (c :: x.1, x.2 + 1))
    else none
def quoted (l : Bytes) : Option (Bytes × Nat) := match quotedGo (l.drop 1) with
  | some (v, n) => if v.length ≤ 400 then some (v, n + 1) else none
  | none => none
def signs : List Bytes := [[46, 46], [33, 61], [60, 61], [62, 61], [40], [41], [123], [125], [44], [59], [58], [46], [61], [60], [62], [43], [45], [42], [47]]
structure Tok where
  kind : Nat
  text : Bytes
  n : Nat
  pos : Nat
  deriving DecidableEq
/-- the token at the beginning, and its length; or the error -/
def next (l : Bytes) : Except Nat (Tok × Nat) := match l with
  | [] => .error 10
  | c :: _ =>
    if isLetter c then
      if nameOk (l.takeWhile isInner) then .ok (⟨0, l.takeWhile isInner, 0, 0⟩, (l.takeWhile isInner).length) else .error 3
    else if isDigit c then
      if numberOk (l.takeWhile isDigit) then .ok (⟨1, l.takeWhile isDigit, numVal (l.takeWhile isDigit), 0⟩, (l.takeWhile isDigit).length) else .error 3
    else if c == 34 then
      match quoted l with
      | some (v, n) => .ok (⟨2, v, 0, 0⟩, n)
      | none => .error 2
    else
      match signs.find? (fun t => t.isPrefixOf l) with
      | some t => .ok (⟨3, t, 0, 0⟩, t.length)
      | none => .error 10
/-- blanks and comments; 'com': inside a comment -/
def gapL : Bytes → Bool → Nat
  | [], _ => 0
  | c :: r, true => if c == 10 then gapL r false + 1 else gapL r true + 1
  | c :: r, false => if isBlank c then gapL r false + 1 else if c == 35 then gapL r true + 1 else 0
def gap (l : Bytes) : Nat := gapL l false
/-- the tokens from a place on, or the place and the error -/
def scanF : Nat → Bytes → Nat → Except (Nat × Nat) (List Tok)
  | 0, _, _ => .ok []
  | f + 1, l, at_ =>
    match l.drop (gap l) with
    | [] => .ok []
    | r => match next r with
      | .error e => .error (at_ + gap l, e)
      | .ok (t, n) => match scanF f (r.drop n) (at_ + gap l + n) with
        | .error x => .error x
        | .ok ts => .ok ({ t with pos := at_ + gap l } :: ts)
def scan (l : Bytes) : Except (Nat × Nat) (List Tok) := if l.length > 4000 then .error (0, 6) else scanF (l.length + 1) l 0
def piece (t : Tok) : Bytes := if t.kind == 2 then escaped t.text else t.text
def join : List Bytes → Bytes
  | [] => []
  | [x] => x
  | x :: y :: r => x ++ 32 :: join (y :: r)
def print (l : List Tok) : Bytes := join (l.map piece)
end LexSpec
