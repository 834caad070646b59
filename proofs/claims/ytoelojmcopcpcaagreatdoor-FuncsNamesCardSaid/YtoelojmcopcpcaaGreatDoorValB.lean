/-
  Contracts of the reference's functions on values: text, node, check, Check.
-/
import Derived.Test.YtoelojmcopcpcaaGreatDoorValA
import Derived.Test.YtoelojmcopcpcaaGreatDoorUtf
import Derived.Test.YtoelojmcopcpcaaGreatDoorShaped
import Derived.Test.YtoelojmcopcpcaaGreatDoorNumValid
import Derived.Deep.QuietTactic
import Derived.BigQuiet
import Derived.WalkSmall
namespace Go.Proofs.YtoelojmcopcpcaaGreatDoor
open Go.RowKit

/-- The error of a string in a value. -/
def vtext (s : ByteArray) : Int := if 4096 < s.size then 3 else if utfB s then 0 else 1

/-- Strings byte by byte. -/
def ltB (a b : ByteArray) : Bool := Op.bytesLess a.toList b.toList
/-- The error of a map's keys: p is the key before them. -/
def keysE : Option ByteArray → List ByteArray → Int
  | _, [] => 0
  | p, s :: r => if vtext s ≠ 0 then vtext s else if (match p with | none => false | some q => !ltB q s) = true then 1 else keysE (some s) r
def nodeE (x : Val) : Int := if shapedV x = false then 1 else if x.kind = 2 ∧ NumPlain.validB x.num = false then 5 else if vtext x.str ≠ 0 then vtext x.str else keysE none x.keys
def prevK (l : List ByteArray) (j : Nat) : Option ByteArray := if j = 0 then none else l[j - 1]?
theorem prevK_succ (l : List ByteArray) (j : Nat) (h : j < l.length) : prevK l (j + 1) = some l[j] := by
  unfold prevK; rw [if_neg (by omega)]; simp [h]

mutual
/-- The error of a value at a level, and the number of nodes up to its end. -/
def checkV : Val → Int → Int → Int × Int
  | .mk k n s items keys, lv, before => if 32 < lv then (4, before) else if 4096 ≤ before then (14, before) else if nodeE (.mk k n s items keys) ≠ 0 then (nodeE (.mk k n s items keys), before) else checkL items (lv + 1) (before + 1)
def checkL : List Val → Int → Int → Int × Int
  | [], _, n => (0, n)
  | x :: r, lv, n => if (checkV x lv n).1 ≠ 0 then checkV x lv n else checkL r lv (checkV x lv n).2
end
def checkE (x : Val) : Int := (checkV x 1 0).1
theorem checkV_eq (x : Val) (lv before : Int) : checkV x lv before = if 32 < lv then (4, before) else if 4096 ≤ before then (14, before) else if nodeE x ≠ 0 then (nodeE x, before) else checkL x.items (lv + 1) (before + 1) := by cases x; simp only [checkV, Val.items]
mutual
theorem checkV_bd : ∀ (x : Val) (lv before : Int), 0 ≤ before → before ≤ 4096 → before ≤ (checkV x lv before).2 ∧ (checkV x lv before).2 ≤ 4096
  | .mk k n s items keys, lv, before, h, h' => by
    simp only [checkV]
    split
    · exact ⟨Int.le_refl _, h'⟩
    · split
      · exact ⟨Int.le_refl _, h'⟩
      · split
        · exact ⟨Int.le_refl _, h'⟩
        · have := checkL_bd items (lv + 1) (before + 1) (by omega) (by omega)
          omega
theorem checkL_bd : ∀ (l : List Val) (lv n : Int), 0 ≤ n → n ≤ 4096 → n ≤ (checkL l lv n).2 ∧ (checkL l lv n).2 ≤ 4096
  | [], lv, n, h, h' => by simp only [checkL]; omega
  | x :: r, lv, n, h, h' => by
    simp only [checkL]
    have h1 := checkV_bd x lv n h h'
    split
    · exact h1
    · have := checkL_bd r lv (checkV x lv n).2 (by omega) (by omega)
      omega
end

end Go.Proofs.YtoelojmcopcpcaaGreatDoor
