/- Plain: JSON values; what a parser answers, said state by state and level within level. -/
import Derived.Test.YtoejdhabpajhlaaDoorQuote6
import Derived.Test.YtoejdhabpajhlaaDoorNum4
import Derived.Test.YtoejdhabpajhlaaDoorSpecUtf
namespace Go.Proofs.YtoejdhabpajhlaaDoor
set_option linter.unusedVariables false
set_option linter.unusedSimpArgs false

/-- a value: its kind, number, text, kids and keys -/
inductive JV where
  | mk : Int → Int → List UInt8 → List JV → List (List UInt8) → JV
def JV.kind : JV → Int | .mk k _ _ _ _ => k
def JV.num : JV → Int | .mk _ n _ _ _ => n
def JV.txt : JV → List UInt8 | .mk _ _ s _ _ => s
def JV.kids : JV → List JV | .mk _ _ _ l _ => l
def JV.keys : JV → List (List UInt8) | .mk _ _ _ _ k => k
def jZero : JV := .mk 0 0 [] [] []
/-- is a text ahead of another one? -/
def ltB (a b : List UInt8) : Bool := Op.bytesLess a b
/-- where a key belongs among the first n of some -/
def insPos (key : List UInt8) (keys : List (List UInt8)) : Nat → Nat
  | 0 => 0
  | n + 1 => if ltB key (keys.getD n []) then insPos key keys n else n + 1
theorem insPos_le (key : List UInt8) (keys : List (List UInt8)) : ∀ n, insPos key keys n ≤ n
  | 0 => Nat.le_refl _
  | n + 1 => by unfold insPos; split; exact Nat.le_succ_of_le (insPos_le key keys n); exact Nat.le_refl _
def insAt {α : Type} (l : List α) (i : Nat) (x : α) : List α := l.take i ++ x :: l.drop i
/-- a value with a kid more -/
def addKid (v : JV) (key : List UInt8) (x : JV) : JV :=
  match v with
  | .mk k n s kids keys =>
    if k = 6 then .mk k n s (insAt kids (insPos key keys kids.length) x) (insAt keys (insPos key keys kids.length) key)
    else .mk k n s (kids ++ [x]) keys

/-- what is open, the last one first, each with the key of what is to come -/
abbrev JStk := List (JV × List UInt8)
/-- how a parser stands: it failed, it has a value, or it goes on with a state -/
inductive PRes where
  | fail : Int → Int → PRes
  | done : Nat → JV → PRes
  | go : Nat → Nat → Nat → JStk → PRes
def failF (l : List UInt8) (p e : Int) : Int × Int := (p, if e = 7 ∧ (l.length : Int) ≤ p then 6 else e)
def pFail (l : List UInt8) (p e : Int) : PRes := .fail (failF l p e).1 (failF l p e).2
def pPut (v : JV) (m many : Nat) : JStk → PRes
  | [] => .done m v
  | (top, key) :: r => .go 5 m many ((addKid top key v, key) :: r)
def beginsB (c : UInt8) : Bool := decide (c.toNat = 34 ∨ c.toNat = 91 ∨ c.toNat = 123 ∨ c.toNat = 45 ∨ c.toNat = 110 ∨ c.toNat = 116 ∨ c.toNat = 102 ∨ (48 ≤ c.toNat ∧ c.toNat ≤ 57))
/-- the first place at which a word does not stand -/
def wordMis (l : List UInt8) (p : Nat) : List UInt8 → Option Nat
  | [] => none
  | c :: r => if l[p]? = some c then wordMis l (p + 1) r else some p
/-- what a text, a number or a word is: the value and the place behind it, or an error and its place -/
def wordJ (l : List UInt8) (p : Nat) (u : List UInt8) (v : JV) : Sum (JV × Nat) (Int × Int) :=
  match wordMis l p u with | none => .inl (v, p + u.length) | some q => .inr (failF l q 7)
def nullT : List UInt8 := [110, 117, 108, 108]
def trueT : List UInt8 := [116, 114, 117, 101]
def falseT : List UInt8 := [102, 97, 108, 115, 101]
def textJ (l : List UInt8) (p : Nat) : Sum (JV × Nat) (Int × Int) :=
  if (qRead l p).2.2 = 0 then .inl (.mk 4 0 (qRead l p).1 [] [], (qRead l p).2.1.toNat) else .inr (failF l (qRead l p).2.1 (qRead l p).2.2)
def numJ (l : List UInt8) (p : Nat) : Sum (JV × Nat) (Int × Int) :=
  if (numRead l p).2.2 = 0 then .inl (.mk 3 (numRead l p).1 [] [] [], (numRead l p).2.1.toNat) else .inr (failF l (numRead l p).2.1 (numRead l p).2.2)
def atomJ (l : List UInt8) (p : Nat) (c : UInt8) : Sum (JV × Nat) (Int × Int) :=
  if c.toNat = 34 then textJ l p else if c.toNat = 110 then wordJ l p nullT (.mk 1 0 [] [] []) else if c.toNat = 116 then wordJ l p trueT (.mk 2 1 [] [] [])
  else if c.toNat = 102 then wordJ l p falseT (.mk 2 0 [] [] []) else numJ l p
/-- how a value begins: an error, a value, or a bracket at a place -/
inductive BRes where
  | err : Int → Int → BRes
  | atom : JV → Nat → BRes
  | opens : Nat → Bool → BRes
def beginJ (l : List UInt8) (at_ many deep : Nat) : BRes :=
  match l[skipB l at_]? with
  | none => .err (failF l (skipB l at_) 7).1 (failF l (skipB l at_) 7).2
  | some c =>
    if beginsB c = false then .err (failF l (skipB l at_) 7).1 (failF l (skipB l at_) 7).2
    else if many = 256 then .err (skipB l at_) 151
    else if c.toNat = 91 ∨ c.toNat = 123 then (if deep = 8 then .err (skipB l at_) 150 else .opens (skipB l at_) (decide (c.toNat = 123)))
    else match atomJ l (skipB l at_) c with | .inl (v, m) => .atom v m | .inr (p, e) => .err p e

-- state by state
def pValue (l : List UInt8) (at_ many : Nat) (stk : JStk) : PRes :=
  match beginJ l at_ many stk.length with
  | .err p e => .fail p e
  | .atom v m => pPut v m (many + 1) stk
  | .opens p o => .go (if o then 2 else 1) (p + 1) (many + 1) ((.mk (if o then 6 else 5) 0 [] [] [], []) :: stk)
def pClose (l : List UInt8) (q many : Nat) : JStk → PRes
  | [] => .fail q 0
  | (v, _) :: r => pPut v (q + 1) many r
def pFirst (l : List UInt8) (at_ many : Nat) (stk : JStk) : PRes :=
  if l[skipB l at_]? = some 93 then pClose l (skipB l at_) many stk else pValue l at_ many stk
def pKey (l : List UInt8) (at_ many : Nat) : JStk → PRes
  | [] => .fail at_ 0
  | (v, k) :: r =>
    if l[skipB l at_]? = some 34 then
      if (qRead l (skipB l at_)).2.2 = 0 then
        if (qRead l (skipB l at_)).1 ∈ v.keys then .fail (skipB l at_) 141
        else .go 4 (qRead l (skipB l at_)).2.1.toNat many ((v, (qRead l (skipB l at_)).1) :: r)
      else pFail l (qRead l (skipB l at_)).2.1 (qRead l (skipB l at_)).2.2
    else pFail l (skipB l at_) 7
def pFirstKey (l : List UInt8) (at_ many : Nat) (stk : JStk) : PRes :=
  if l[skipB l at_]? = some 125 then pClose l (skipB l at_) many stk else pKey l at_ many stk
def pColon (l : List UInt8) (at_ many : Nat) (stk : JStk) : PRes :=
  if l[skipB l at_]? = some 58 then .go 0 (skipB l at_ + 1) many stk else pFail l (skipB l at_) 7
def pMore (l : List UInt8) (at_ many : Nat) : JStk → PRes
  | [] => .fail at_ 0
  | (v, k) :: r =>
    if l[skipB l at_]? = some 44 then .go (if v.kind = 6 then 3 else 0) (skipB l at_ + 1) many ((v, k) :: r)
    else if l[skipB l at_]? = some (if v.kind = 6 then 125 else 93) then pClose l (skipB l at_) many ((v, k) :: r)
    else pFail l (skipB l at_) 7
def pStep (l : List UInt8) : PRes → PRes
  | .go 0 a m s => pValue l a m s
  | .go 1 a m s => pFirst l a m s
  | .go 2 a m s => pFirstKey l a m s
  | .go 3 a m s => pKey l a m s
  | .go 4 a m s => pColon l a m s
  | .go 5 a m s => pMore l a m s
  | r => r
def pRun (l : List UInt8) : Nat → PRes → PRes
  | 0, r => r
  | k + 1, r => pRun l k (pStep l r)

-- level within level
inductive RRes where
  | ok : JV → Nat → Nat → RRes
  | err : Int → Int → RRes
def rFail (l : List UInt8) (p e : Int) : RRes := .err (failF l p e).1 (failF l p e).2
/-- an object by rising keys -/
def sortedJ (keys : List (List UInt8)) (kids : List JV) : JV := (keys.zip kids).foldl (fun v kx => addKid v kx.1 kx.2) (.mk 6 0 [] [] [])
mutual
inductive RdR (l : List UInt8) : Nat → Nat → Nat → RRes → Prop where
  | err {a m d p e} : beginJ l a m d = .err p e → RdR l a m d (.err p e)
  | atom {a m d v q} : beginJ l a m d = .atom v q → RdR l a m d (.ok v q (m + 1))
  | list0 {a m d p} : beginJ l a m d = .opens p false → l[skipB l (p + 1)]? = some 93 → RdR l a m d (.ok (.mk 5 0 [] [] []) (skipB l (p + 1) + 1) (m + 1))
  | list1 {a m d p r} : beginJ l a m d = .opens p false → l[skipB l (p + 1)]? ≠ some 93 → LsR l (skipB l (p + 1)) (m + 1) d [] r → RdR l a m d r
  | obj0 {a m d p} : beginJ l a m d = .opens p true → l[skipB l (p + 1)]? = some 125 → RdR l a m d (.ok (.mk 6 0 [] [] []) (skipB l (p + 1) + 1) (m + 1))
  | obj1 {a m d p r} : beginJ l a m d = .opens p true → l[skipB l (p + 1)]? ≠ some 125 → ObR l (skipB l (p + 1)) (m + 1) d [] [] r → RdR l a m d r
inductive LsR (l : List UInt8) : Nat → Nat → Nat → List JV → RRes → Prop where
  | err {a m d kids p e} : RdR l a m (d + 1) (.err p e) → LsR l a m d kids (.err p e)
  | close {a m d kids x q k} : RdR l a m (d + 1) (.ok x q k) → l[skipB l q]? = some 93 → LsR l a m d kids (.ok (.mk 5 0 [] (kids ++ [x]) []) (skipB l q + 1) k)
  | comma {a m d kids x q k r} : RdR l a m (d + 1) (.ok x q k) → l[skipB l q]? = some 44 → LsR l (skipB l q + 1) k d (kids ++ [x]) r → LsR l a m d kids r
  | bad {a m d kids x q k} : RdR l a m (d + 1) (.ok x q k) → l[skipB l q]? ≠ some 93 → l[skipB l q]? ≠ some 44 → LsR l a m d kids (rFail l (skipB l q) 7)
inductive ObR (l : List UInt8) : Nat → Nat → Nat → List (List UInt8) → List JV → RRes → Prop where
  | nokey {a m d keys kids} : l[skipB l a]? ≠ some 34 → ObR l a m d keys kids (rFail l (skipB l a) 7)
  | badkey {a m d keys kids} : l[skipB l a]? = some 34 → (qRead l (skipB l a)).2.2 ≠ 0 → ObR l a m d keys kids (rFail l (qRead l (skipB l a)).2.1 (qRead l (skipB l a)).2.2)
  | double {a m d keys kids} : l[skipB l a]? = some 34 → (qRead l (skipB l a)).2.2 = 0 → (qRead l (skipB l a)).1 ∈ keys → ObR l a m d keys kids (.err (skipB l a) 141)
  | nocolon {a m d keys kids s} {c : Nat} : l[skipB l a]? = some 34 → qRead l (skipB l a) = (s, (c : Int), 0) → s ∉ keys → l[skipB l c]? ≠ some 58 → ObR l a m d keys kids (rFail l (skipB l c) 7)
  | err {a m d keys kids s p e} {c : Nat} : l[skipB l a]? = some 34 → qRead l (skipB l a) = (s, (c : Int), 0) → s ∉ keys → l[skipB l c]? = some 58 → RdR l (skipB l c + 1) m (d + 1) (.err p e) → ObR l a m d keys kids (.err p e)
  | close {a m d keys kids s x q k} {c : Nat} : l[skipB l a]? = some 34 → qRead l (skipB l a) = (s, (c : Int), 0) → s ∉ keys → l[skipB l c]? = some 58 → RdR l (skipB l c + 1) m (d + 1) (.ok x q k) → l[skipB l q]? = some 125 →
      ObR l a m d keys kids (.ok (sortedJ (keys ++ [s]) (kids ++ [x])) (skipB l q + 1) k)
  | comma {a m d keys kids s x q k r} {c : Nat} : l[skipB l a]? = some 34 → qRead l (skipB l a) = (s, (c : Int), 0) → s ∉ keys → l[skipB l c]? = some 58 → RdR l (skipB l c + 1) m (d + 1) (.ok x q k) → l[skipB l q]? = some 44 →
      ObR l (skipB l q + 1) k d (keys ++ [s]) (kids ++ [x]) r → ObR l a m d keys kids r
  | bad {a m d keys kids s x q k} {c : Nat} : l[skipB l a]? = some 34 → qRead l (skipB l a) = (s, (c : Int), 0) → s ∉ keys → l[skipB l c]? = some 58 → RdR l (skipB l c + 1) m (d + 1) (.ok x q k) → l[skipB l q]? ≠ some 125 → l[skipB l q]? ≠ some 44 →
      ObR l a m d keys kids (rFail l (skipB l q) 7)
end
end Go.Proofs.YtoejdhabpajhlaaDoor
