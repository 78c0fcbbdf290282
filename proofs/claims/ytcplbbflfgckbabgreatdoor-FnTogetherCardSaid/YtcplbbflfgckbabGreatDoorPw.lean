/- Words of the functions' texts. No conditions. -/
set_option linter.unusedVariables false
set_option linter.unusedSimpArgs false
namespace Go.Ab.Pw
def bt (s : ByteArray) (i : Int) : Int := if h : i.toNat < s.size then ((s[i.toNat]'h).toNat : Int) else 0
def bytesOf (s : ByteArray) : List Int := s.data.toList.map fun b => (b.toNat : Int)
@[reducible] def rd (xs : List Int) (i : Int) : Int := xs.getD i.toNat 0
@[reducible] def rdOf {α : Type} (d : α) (xs : List α) (i : Int) : α := xs.getD i.toNat d
@[reducible] def mx (a b : Int) : Int := if a < b then b else a
@[reducible] def mn (a b : Int) : Int := if b < a then b else a
namespace G
def mapGet : List (ByteArray × Int) → ByteArray → Int
  | [], _ => 0
  | p :: c, x => if p.1.data.toList = x.data.toList then p.2 else mapGet c x
variable {α : Type}
def anyM (F : α → Option Bool) : List α → Option Bool
  | [] => some false
  | x :: l => (F x).bind fun b => if b = true then some true else anyM F l
def idxM (F : α → Option Bool) : List α → Option Int
  | [] => some (-1)
  | x :: l => (F x).bind fun b => if b = true then some 0 else (idxM F l).bind fun i => some (if i = -1 then -1 else i + 1)
def dropM (F : α → Option Bool) : List α → Option (List α)
  | [] => some []
  | x :: l => (F x).bind fun b => (dropM F l).bind fun r => some (if b = true then r else x :: r)
end G
end Go.Ab.Pw
