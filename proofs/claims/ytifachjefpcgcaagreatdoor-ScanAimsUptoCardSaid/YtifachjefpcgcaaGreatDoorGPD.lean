import Derived.Test.YtifachjefpcgcaaGreatDoorGP0
namespace Go.Proofs.YtifachjefpcgcaaGreatDoor.P
open Go.RowKit Go.Proofs.YtifachjefpcgcaaGreatDoorW.PrintWords Go.Proofs.YtifachjefpcgcaaGreatDoorW.PrintLast Go.Proofs.YtifachjefpcgcaaGreatDoorW.PrintMore
attribute [local go_sem] max2_int min2_int max_two min_two max_three min_three max_four min_four
set_option linter.unusedVariables false
set_option linter.unusedSimpArgs false
theorem ownBlock_nf (A : Option Addr) (n c : Nat) : (Value.slice A n c).ownBlock = A.map (·.block) := by cases A <;> rfl
def strings_explode.f (a0 : ByteArray) (a1 : Int) : Option (List ByteArray) := none
def strings_Count.f (a0 : ByteArray) (a1 : ByteArray) : Option (Int) :=
 match a1.data.toList with
 | [c] => some (Lib.countByte a0.data.toList c)
 | _ => none
def stringslite_Index.f (a0 : ByteArray) (a1 : ByteArray) : Option (Int) :=
 match a1.data.toList with
 | [c] => some (Lib.indexByte a0.data.toList c)
 | _ => none
def strings_Index.f (a0 : ByteArray) (a1 : ByteArray) : Option (Int) := (stringslite_Index.f a0 a1).bind fun t101 => (some t101)
mutual
def strings_genSplit.j0 : Nat → ByteArray → ByteArray → Int → Int → Option (List ByteArray)
 | 0, _, _, _, _ => none
 | k + 1, x0, x1, x2, x3 => if 0 ≤ (mn x3 (wrap64 ((x0.size : Int) + 1))) then (if (mn x3 (wrap64 ((x0.size : Int) + 1)) : Int).toNat ≤ 17592186044416 then (strings_genSplit.l0 k x0 x1 x2 (wrap64 ((mn x3 (wrap64 ((x0.size : Int) + 1))) - 1)) (List.replicate (mn x3 (wrap64 ((x0.size : Int) + 1)) : Int).toNat (⟨#[]⟩ : ByteArray)) 0) else (none)) else (none)
def strings_genSplit.l0 : Nat → ByteArray → ByteArray → Int → Int → List ByteArray → Int → Option (List ByteArray)
 | 0, _, _, _, _, _, _ => none
 | k + 1, x0, x1, x2, x3, x9, x10 => if x10 < x3 then ((strings_Index.f x0 x1).bind fun t109 => (if t109 < 0 then (if 0 ≤ x10 then (if x10 < (x9.length : Int) then (if 0 ≤ (wrap64 (x10 + 1)) then (if (wrap64 (x10 + 1)) ≤ (x9.length : Int) then (some ((x9.set (x10 : Int).toNat x0).take ((wrap64 (x10 + 1)) : Int).toNat)) else (none)) else (none)) else (none)) else (none)) else (if 0 ≤ (wrap64 (t109 + x2)) then (if (wrap64 (t109 + x2)) ≤ (x0.size : Int) then (if 0 ≤ x10 then (if x10 < (x9.length : Int) then (if 0 ≤ (wrap64 (t109 + (x1.size : Int))) then (if (wrap64 (t109 + (x1.size : Int))) ≤ (x0.size : Int) then (strings_genSplit.l0 k (x0.extract ((wrap64 (t109 + (x1.size : Int))) : Int).toNat x0.size) x1 x2 x3 (x9.set (x10 : Int).toNat (x0.extract 0 ((wrap64 (t109 + x2)) : Int).toNat)) (wrap64 (x10 + 1))) else (none)) else (none)) else (none)) else (none)) else (none)) else (none)))) else (if 0 ≤ x10 then (if x10 < (x9.length : Int) then (if 0 ≤ (wrap64 (x10 + 1)) then (if (wrap64 (x10 + 1)) ≤ (x9.length : Int) then (some ((x9.set (x10 : Int).toNat x0).take ((wrap64 (x10 + 1)) : Int).toNat)) else (none)) else (none)) else (none)) else (none))
end
def strings_genSplit.f (k : Nat) (a0 : ByteArray) (a1 : ByteArray) (a2 : Int) (a3 : Int) : Option (List ByteArray) := if a3 = 0 then (some ([] : List ByteArray)) else (if a1.toList = ([] : List UInt8) then ((strings_explode.f a0 a3).bind fun t102 => (some t102)) else (if a3 < 0 then ((strings_Count.f a0 a1).bind fun t105 => (strings_genSplit.j0 k a0 a1 a2 (wrap64 (t105 + 1)))) else (strings_genSplit.j0 k a0 a1 a2 a3)))
def strings_Split.f (k : Nat) (a0 : ByteArray) (a1 : ByteArray) : Option (List ByteArray) := (strings_genSplit.f k a0 a1 0 (-1)).bind fun t119 => (some t119)
mutual
def path_Name.j0 : Nat → ByteArray → Bool → Option (Int)
 | 0, _, _ => none
 | k + 1, x0, x21 => if x21 = true then (some 42) else (path_Name.l0 k x0 (x0.size : Int) 0)
def path_Name.l0 : Nat → ByteArray → Int → Int → Option (Int)
 | 0, _, _, _ => none
 | k + 1, x0, x23, x24 => if x24 < x23 then (if 0 ≤ x24 then (if x24 < (x0.size : Int) then (if (bt x0 x24) ≥ 97 then (if (bt x0 x24) ≤ 122 then (path_Name.l0 k x0 x23 (wrap64 (x24 + 1))) else (if (bt x0 x24) ≥ 65 then (if (bt x0 x24) ≤ 90 then (path_Name.l0 k x0 x23 (wrap64 (x24 + 1))) else (if (bt x0 x24) ≥ 48 then (if ((bt x0 x24) ≤ 57) then (path_Name.l0 k x0 x23 (wrap64 (x24 + 1))) else (if (bt x0 x24) = 46 then (path_Name.l0 k x0 x23 (wrap64 (x24 + 1))) else (if (bt x0 x24) = 95 then (path_Name.l0 k x0 x23 (wrap64 (x24 + 1))) else (if (bt x0 x24) = 45 then (path_Name.l0 k x0 x23 (wrap64 (x24 + 1))) else (some 42))))) else (if (bt x0 x24) = 46 then (path_Name.l0 k x0 x23 (wrap64 (x24 + 1))) else (if (bt x0 x24) = 95 then (path_Name.l0 k x0 x23 (wrap64 (x24 + 1))) else (if (bt x0 x24) = 45 then (path_Name.l0 k x0 x23 (wrap64 (x24 + 1))) else (some 42)))))) else (if (bt x0 x24) ≥ 48 then (if ((bt x0 x24) ≤ 57) then (path_Name.l0 k x0 x23 (wrap64 (x24 + 1))) else (if (bt x0 x24) = 46 then (path_Name.l0 k x0 x23 (wrap64 (x24 + 1))) else (if (bt x0 x24) = 95 then (path_Name.l0 k x0 x23 (wrap64 (x24 + 1))) else (if (bt x0 x24) = 45 then (path_Name.l0 k x0 x23 (wrap64 (x24 + 1))) else (some 42))))) else (if (bt x0 x24) = 46 then (path_Name.l0 k x0 x23 (wrap64 (x24 + 1))) else (if (bt x0 x24) = 95 then (path_Name.l0 k x0 x23 (wrap64 (x24 + 1))) else (if (bt x0 x24) = 45 then (path_Name.l0 k x0 x23 (wrap64 (x24 + 1))) else (some 42))))))) else (if (bt x0 x24) ≥ 65 then (if (bt x0 x24) ≤ 90 then (path_Name.l0 k x0 x23 (wrap64 (x24 + 1))) else (if (bt x0 x24) ≥ 48 then (if ((bt x0 x24) ≤ 57) then (path_Name.l0 k x0 x23 (wrap64 (x24 + 1))) else (if (bt x0 x24) = 46 then (path_Name.l0 k x0 x23 (wrap64 (x24 + 1))) else (if (bt x0 x24) = 95 then (path_Name.l0 k x0 x23 (wrap64 (x24 + 1))) else (if (bt x0 x24) = 45 then (path_Name.l0 k x0 x23 (wrap64 (x24 + 1))) else (some 42))))) else (if (bt x0 x24) = 46 then (path_Name.l0 k x0 x23 (wrap64 (x24 + 1))) else (if (bt x0 x24) = 95 then (path_Name.l0 k x0 x23 (wrap64 (x24 + 1))) else (if (bt x0 x24) = 45 then (path_Name.l0 k x0 x23 (wrap64 (x24 + 1))) else (some 42)))))) else (if (bt x0 x24) ≥ 48 then (if ((bt x0 x24) ≤ 57) then (path_Name.l0 k x0 x23 (wrap64 (x24 + 1))) else (if (bt x0 x24) = 46 then (path_Name.l0 k x0 x23 (wrap64 (x24 + 1))) else (if (bt x0 x24) = 95 then (path_Name.l0 k x0 x23 (wrap64 (x24 + 1))) else (if (bt x0 x24) = 45 then (path_Name.l0 k x0 x23 (wrap64 (x24 + 1))) else (some 42))))) else (if (bt x0 x24) = 46 then (path_Name.l0 k x0 x23 (wrap64 (x24 + 1))) else (if (bt x0 x24) = 95 then (path_Name.l0 k x0 x23 (wrap64 (x24 + 1))) else (if (bt x0 x24) = 45 then (path_Name.l0 k x0 x23 (wrap64 (x24 + 1))) else (some 42))))))) else (none)) else (none)) else (some 0)
end
def path_Name.f (k : Nat) (a0 : ByteArray) : Option (Int) := if (a0.size : Int) < 1 then (path_Name.j0 k a0 true) else (if (a0.size : Int) > 64 then (path_Name.j0 k a0 true) else (if a0.toList = ([46] : List UInt8) then (path_Name.j0 k a0 true) else (path_Name.j0 k a0 (a0.toList == ([46, 46] : List UInt8)))))
def path_Names.l0 : Nat → List ByteArray → List ByteArray → Int → Int → Option (List ByteArray × Int)
 | 0, _, _, _, _ => none
 | k + 1, x4, x14, x15, x16 => if x16 < x15 then (if 0 ≤ x16 then (if x16 < (x14.length : Int) then ((path_Name.f k (rdOf ByteArray.empty x14 x16)).bind fun t126 => (if t126 = 0 then (path_Names.l0 k x4 x14 x15 (wrap64 (x16 + 1))) else (some (([] : List ByteArray), 45)))) else (none)) else (none)) else (some (x4, 0))
def path_Names.f (k : Nat) (a0 : ByteArray) : Option (List ByteArray × Int) := if a0.toList = ([] : List UInt8) then (some (([] : List ByteArray), 0)) else ((strings_Split.f k a0 (⟨#[47]⟩ : ByteArray)).bind fun t122 => (if (t122.length : Int) > 32 then (some (([] : List ByteArray), 45)) else (path_Names.l0 k t122 t122 (t122.length : Int) 0)))
def strings_Join.f (l0 : List ByteArray) (a1 : ByteArray) : Option (ByteArray) :=
 if l0.length ≤ 140737488355328 ∧ (Lib.join (l0.map (·.data.toList)) a1.data.toList).length ≤ 140737488355328 then some ⟨(Lib.join (l0.map (·.data.toList)) a1.data.toList).toArray⟩ else none
def path_Split.f (k : Nat) (a0 : ByteArray) : Option (ByteArray × ByteArray × Int) := (path_Names.f k a0).bind fun bt127 => (if bt127.2 = 0 then (if (wrap64 ((bt127.1.length : Int) - 1)) < 0 then (some ((⟨#[]⟩ : ByteArray), (⟨#[]⟩ : ByteArray), 46)) else (if 0 ≤ (wrap64 ((bt127.1.length : Int) - 1)) then (if (wrap64 ((bt127.1.length : Int) - 1)) ≤ (bt127.1.length : Int) then ((strings_Join.f (bt127.1.take ((wrap64 ((bt127.1.length : Int) - 1)) : Int).toNat) (⟨#[47]⟩ : ByteArray)).bind fun t135 => (if (wrap64 ((bt127.1.length : Int) - 1)) < (bt127.1.length : Int) then (some (t135, rdOf ByteArray.empty bt127.1 (wrap64 ((bt127.1.length : Int) - 1)), 0)) else (none))) else (none)) else (none))) else (some ((⟨#[]⟩ : ByteArray), (⟨#[]⟩ : ByteArray), bt127.2)))
def path_Check.f (k : Nat) (a0 : ByteArray) : Option (Int) := (path_Names.f k a0).bind fun bt137 => (some bt137.2)
def stringslite_Cut.f (a0 : ByteArray) (a1 : ByteArray) : Option (ByteArray × ByteArray × Bool) := (stringslite_Index.f a0 a1).bind fun t141 => (if t141 ≥ 0 then (if 0 ≤ t141 then (if t141 ≤ (a0.size : Int) then (if 0 ≤ (wrap64 (t141 + (a1.size : Int))) then (if (wrap64 (t141 + (a1.size : Int))) ≤ (a0.size : Int) then (some (a0.extract 0 (t141 : Int).toNat, a0.extract ((wrap64 (t141 + (a1.size : Int))) : Int).toNat a0.size, true)) else (none)) else (none)) else (none)) else (none)) else (some (a0, (⟨#[]⟩ : ByteArray), false)))
def strings_Cut.f (a0 : ByteArray) (a1 : ByteArray) : Option (ByteArray × ByteArray × Bool) := (stringslite_Cut.f a0 a1).bind fun bt142 => (some (bt142.1, bt142.2.1, bt142.2.2))
def stringslite_HasPrefix.f (a0 : ByteArray) (a1 : ByteArray) : Option (Bool) := if (a0.size : Int) ≥ (a1.size : Int) then (if 0 ≤ (a1.size : Int) then (if (a1.size : Int) ≤ (a0.size : Int) then (some ((a0.extract 0 ((a1.size : Int) : Int).toNat).toList == a1.toList)) else (none)) else (none)) else (some false)
def strings_HasPrefix.f (a0 : ByteArray) (a1 : ByteArray) : Option (Bool) := (stringslite_HasPrefix.f a0 a1).bind fun t145 => (some t145)
mutual
def path_gone.l0 : Nat → List ByteArray → List ByteArray → Int → Int → Option (List ByteArray × Int)
 | 0, _, _, _, _ => none
 | k + 1, x0, x14, x15, x16 => if x16 < x15 then (if 0 ≤ x16 then (if x16 < (x14.length : Int) then (if (rdOf ByteArray.empty x14 x16).toList = ([] : List UInt8) then (path_gone.j1 k x0 (rdOf ByteArray.empty x14 x16) x14 x15 x16 (rdOf ByteArray.empty x14 x16) ((rdOf ByteArray.empty x14 x16).toList == ([] : List UInt8))) else (path_gone.j1 k x0 (rdOf ByteArray.empty x14 x16) x14 x15 x16 (rdOf ByteArray.empty x14 x16) ((rdOf ByteArray.empty x14 x16).toList == ([46] : List UInt8)))) else (none)) else (none)) else (some (x0, 0))
def path_gone.j1 : Nat → List ByteArray → ByteArray → List ByteArray → Int → Int → ByteArray → Bool → Option (List ByteArray × Int)
 | 0, _, _, _, _, _, _, _ => none
 | k + 1, x0, x7, x14, x15, x16, x20, x28 => if x28 = true then (path_gone.l0 k x0 x14 x15 (wrap64 (x16 + 1))) else (if x20.toList = ([46, 46] : List UInt8) then (if (x0.length : Int) = 0 then (some (([] : List ByteArray), 43)) else (if 0 ≤ (wrap64 ((x0.length : Int) - 1)) then (if (wrap64 ((x0.length : Int) - 1)) ≤ (x0.length : Int) then (path_gone.l0 k (x0.take ((wrap64 ((x0.length : Int) - 1)) : Int).toNat) x14 x15 (wrap64 (x16 + 1))) else (none)) else (none))) else ((path_Name.f k x7).bind fun t154 => (if t154 = 0 then (if x0.length < 8796093022208 then (path_gone.l0 k (x0 ++ [x7]) x14 x15 (wrap64 (x16 + 1))) else (none)) else (some (([] : List ByteArray), 42)))))
end
def path_gone.f (k : Nat) (l0 : List ByteArray) (a1 : ByteArray) : Option (List ByteArray × Int) := if (a1.size : Int) > 4096 then (some (([] : List ByteArray), 40)) else ((strings_HasPrefix.f a1 (⟨#[47]⟩ : ByteArray)).bind fun t146 => (if t146 = true then (some (([] : List ByteArray), 41)) else ((strings_Split.f k a1 (⟨#[47]⟩ : ByteArray)).bind fun t147 => (path_gone.l0 k l0 t147 (t147.length : Int) 0))))
def path_Of.l0 : Nat → List ByteArray → List ByteArray → Int → Int → Option (ByteArray × Int)
 | 0, _, _, _, _ => none
 | k + 1, x0, x6, x7, x8 => if x8 < x7 then (if 0 ≤ x8 then (if x8 < (x6.length : Int) then ((path_Name.f k (rdOf ByteArray.empty x6 x8)).bind fun t159 => (if t159 = 0 then (path_Of.l0 k x0 x6 x7 (wrap64 (x8 + 1))) else (some ((⟨#[]⟩ : ByteArray), 42)))) else (none)) else (none)) else (if (x0.length : Int) > 32 then (some ((⟨#[]⟩ : ByteArray), 44)) else ((strings_Join.f x0 (⟨#[47]⟩ : ByteArray)).bind fun t160 => (some (t160, 0))))
def path_Of.f (k : Nat) (l0 : List ByteArray) : Option (ByteArray × Int) := path_Of.l0 k l0 l0 (l0.length : Int) 0
def path_Join.l0 : Nat → List ByteArray → Int → List ByteArray → Int → Int → Option (ByteArray × Int)
 | 0, _, _, _, _, _ => none
 | k + 1, x6, x7, x15, x16, x17 => if x17 < x16 then (if 0 ≤ x17 then (if x17 < (x15.length : Int) then (if x7 = 0 then ((path_gone.f k x6 (rdOf ByteArray.empty x15 x17)).bind fun bt166 => (path_Join.l0 k bt166.1 bt166.2 x15 x16 (wrap64 (x17 + 1)))) else (path_Join.l0 k x6 x7 x15 x16 (wrap64 (x17 + 1)))) else (none)) else (none)) else (if x7 = 0 then ((path_Of.f k x6).bind fun bt170 => (some (bt170.1, bt170.2))) else (some ((⟨#[]⟩ : ByteArray), x7)))
def path_Join.f (k : Nat) (a0 : ByteArray) (l1 : List ByteArray) : Option (ByteArray × Int) := (path_Names.f k a0).bind fun bt161 => (path_Join.l0 k bt161.1 bt161.2 l1 (l1.length : Int) 0)
def path_Clean.f (k : Nat) (a0 : ByteArray) : Option (ByteArray × Int) := (path_Join.f k (⟨#[]⟩ : ByteArray) (([a0] : List ByteArray))).bind fun bt175 => (some (bt175.1, bt175.2))
def path_Aim.j0 : Nat → ByteArray → ByteArray → Bool → Option (ByteArray × Int)
 | 0, _, _, _ => none
 | k + 1, x0, x1, x26 => if x26 = true then ((path_Join.f k x0 (([x1] : List ByteArray))).bind fun bt184 => (some (bt184.1, bt184.2))) else ((path_Clean.f k x1).bind fun bt186 => (some (bt186.1, bt186.2)))
def path_Aim.f (k : Nat) (a0 : ByteArray) (a1 : ByteArray) : Option (ByteArray × Int) := (path_Check.f k a0).bind fun t177 => (if t177 = 0 then ((strings_Cut.f a1 (⟨#[47]⟩ : ByteArray)).bind fun bt178 => (if bt178.1.toList = ([46] : List UInt8) then (path_Aim.j0 k a0 a1 true) else (path_Aim.j0 k a0 a1 (bt178.1.toList == ([46, 46] : List UInt8))))) else (some ((⟨#[]⟩ : ByteArray), t177)))
mutual
def scan_Aimed.l0 : Nat → ByteArray → List ByteArray → List (S35) → Int → Int → Option (List ByteArray × Int × Int)
 | 0, _, _, _, _, _ => none
 | k + 1, x6, x9, x24, x25, x26 => if x26 < x25 then (if 0 ≤ x26 then (if x26 < (x24.length : Int) then ((path_Aim.f k x6 ((rd_T35 x24 x26).f0)).bind fun bt194 => (if bt194.2 = 0 then (scan_Aimed.j1 k x6 x9 bt194.1 bt194.2 x24 x25 x26 (bt194.1.toList == ([] : List UInt8)) ((rd_T35 x24 x26).f0) ((rd_T35 x24 x26).f1) ((rd_T35 x24 x26).f2)) else (scan_Aimed.j1 k x6 x9 bt194.1 bt194.2 x24 x25 x26 false ((rd_T35 x24 x26).f0) ((rd_T35 x24 x26).f1) ((rd_T35 x24 x26).f2)))) else (none)) else (none)) else (some (x9, 0, 0))
def scan_Aimed.j1 : Nat → ByteArray → List ByteArray → ByteArray → Int → List (S35) → Int → Int → Bool → ByteArray → ByteArray → Int → Option (List ByteArray × Int × Int)
 | 0, _, _, _, _, _, _, _, _, _, _, _ => none
 | k + 1, x6, x9, x12, x13, x24, x25, x26, x42, x194000, x194001, x194002 => if x42 = true then (if 46 = 0 then (if x9.length < 8796093022208 then (scan_Aimed.l0 k x6 (x9 ++ [x12]) x24 x25 (wrap64 (x26 + 1))) else (none)) else (some (([] : List ByteArray), 46, x194002))) else (if x13 = 0 then (if x9.length < 8796093022208 then (scan_Aimed.l0 k x6 (x9 ++ [x12]) x24 x25 (wrap64 (x26 + 1))) else (none)) else (some (([] : List ByteArray), x13, x194002)))
end
def scan_Aimed.f (k : Nat) (a0 : ByteArray) (l1 : List (S35)) : Option (List ByteArray × Int × Int) := (path_Split.f k a0).bind fun bt189 => (if bt189.2.2 = 0 then (scan_Aimed.l0 k bt189.1 ([] : List ByteArray) l1 (l1.length : Int) 0) else (some (([] : List ByteArray), bt189.2.2, 0)))
def treadleref04_Pieces.l0 : Nat → ByteArray → List ByteArray → Int → Int → Option (List ByteArray)
 | 0, _, _, _, _ => none
 | k + 1, x0, x3, x4, x5 => if x5 ≤ (x0.size : Int) then (if x5 = (x0.size : Int) then (if 0 ≤ x4 then (if x4 ≤ x5 then (if x3.length < 8796093022208 then (treadleref04_Pieces.l0 k x0 (x3 ++ [x0.extract (x4 : Int).toNat (x5 : Int).toNat]) (wrap64 (x5 + 1)) (wrap64 (x5 + 1))) else (none)) else (none)) else (none)) else (if 0 ≤ x5 then (if x5 < (x0.size : Int) then (if (bt x0 x5) = 47 then (if 0 ≤ x4 then (if x4 ≤ x5 then (if x3.length < 8796093022208 then (treadleref04_Pieces.l0 k x0 (x3 ++ [x0.extract (x4 : Int).toNat (x5 : Int).toNat]) (wrap64 (x5 + 1)) (wrap64 (x5 + 1))) else (none)) else (none)) else (none)) else (treadleref04_Pieces.l0 k x0 x3 x4 (wrap64 (x5 + 1)))) else (none)) else (none))) else (some x3)
def treadleref04_Pieces.f (k : Nat) (a0 : ByteArray) : Option (List ByteArray) := treadleref04_Pieces.l0 k a0 ([] : List ByteArray) 0 0
mutual
def treadleref04_Name.j0 : Nat → ByteArray → Bool → Option (Bool)
 | 0, _, _ => none
 | k + 1, x0, x20 => if x20 = true then (some false) else (treadleref04_Name.l0 k x0 0)
def treadleref04_Name.l0 : Nat → ByteArray → Int → Option (Bool)
 | 0, _, _ => none
 | k + 1, x0, x3 => if x3 < (x0.size : Int) then (if 0 ≤ x3 then (if (bt x0 x3) ≥ 97 then (if (bt x0 x3) ≤ 122 then (treadleref04_Name.l0 k x0 (wrap64 (x3 + 1))) else (if (bt x0 x3) ≥ 65 then (if (bt x0 x3) ≤ 90 then (treadleref04_Name.l0 k x0 (wrap64 (x3 + 1))) else (if (bt x0 x3) ≥ 48 then (if (bt x0 x3) ≤ 57 then (treadleref04_Name.l0 k x0 (wrap64 (x3 + 1))) else (if (bt x0 x3) = 46 then (treadleref04_Name.l0 k x0 (wrap64 (x3 + 1))) else (if (bt x0 x3) = 95 then (treadleref04_Name.l0 k x0 (wrap64 (x3 + 1))) else (if ((bt x0 x3) = 45) then (treadleref04_Name.l0 k x0 (wrap64 (x3 + 1))) else (some false))))) else (if (bt x0 x3) = 46 then (treadleref04_Name.l0 k x0 (wrap64 (x3 + 1))) else (if (bt x0 x3) = 95 then (treadleref04_Name.l0 k x0 (wrap64 (x3 + 1))) else (if ((bt x0 x3) = 45) then (treadleref04_Name.l0 k x0 (wrap64 (x3 + 1))) else (some false)))))) else (if (bt x0 x3) ≥ 48 then (if (bt x0 x3) ≤ 57 then (treadleref04_Name.l0 k x0 (wrap64 (x3 + 1))) else (if (bt x0 x3) = 46 then (treadleref04_Name.l0 k x0 (wrap64 (x3 + 1))) else (if (bt x0 x3) = 95 then (treadleref04_Name.l0 k x0 (wrap64 (x3 + 1))) else (if ((bt x0 x3) = 45) then (treadleref04_Name.l0 k x0 (wrap64 (x3 + 1))) else (some false))))) else (if (bt x0 x3) = 46 then (treadleref04_Name.l0 k x0 (wrap64 (x3 + 1))) else (if (bt x0 x3) = 95 then (treadleref04_Name.l0 k x0 (wrap64 (x3 + 1))) else (if ((bt x0 x3) = 45) then (treadleref04_Name.l0 k x0 (wrap64 (x3 + 1))) else (some false))))))) else (if (bt x0 x3) ≥ 65 then (if (bt x0 x3) ≤ 90 then (treadleref04_Name.l0 k x0 (wrap64 (x3 + 1))) else (if (bt x0 x3) ≥ 48 then (if (bt x0 x3) ≤ 57 then (treadleref04_Name.l0 k x0 (wrap64 (x3 + 1))) else (if (bt x0 x3) = 46 then (treadleref04_Name.l0 k x0 (wrap64 (x3 + 1))) else (if (bt x0 x3) = 95 then (treadleref04_Name.l0 k x0 (wrap64 (x3 + 1))) else (if ((bt x0 x3) = 45) then (treadleref04_Name.l0 k x0 (wrap64 (x3 + 1))) else (some false))))) else (if (bt x0 x3) = 46 then (treadleref04_Name.l0 k x0 (wrap64 (x3 + 1))) else (if (bt x0 x3) = 95 then (treadleref04_Name.l0 k x0 (wrap64 (x3 + 1))) else (if ((bt x0 x3) = 45) then (treadleref04_Name.l0 k x0 (wrap64 (x3 + 1))) else (some false)))))) else (if (bt x0 x3) ≥ 48 then (if (bt x0 x3) ≤ 57 then (treadleref04_Name.l0 k x0 (wrap64 (x3 + 1))) else (if (bt x0 x3) = 46 then (treadleref04_Name.l0 k x0 (wrap64 (x3 + 1))) else (if (bt x0 x3) = 95 then (treadleref04_Name.l0 k x0 (wrap64 (x3 + 1))) else (if ((bt x0 x3) = 45) then (treadleref04_Name.l0 k x0 (wrap64 (x3 + 1))) else (some false))))) else (if (bt x0 x3) = 46 then (treadleref04_Name.l0 k x0 (wrap64 (x3 + 1))) else (if (bt x0 x3) = 95 then (treadleref04_Name.l0 k x0 (wrap64 (x3 + 1))) else (if ((bt x0 x3) = 45) then (treadleref04_Name.l0 k x0 (wrap64 (x3 + 1))) else (some false))))))) else (none)) else (some true)
end
def treadleref04_Name.f (k : Nat) (a0 : ByteArray) : Option (Bool) := if (a0.size : Int) < 1 then (treadleref04_Name.j0 k a0 true) else (if (a0.size : Int) > 64 then (treadleref04_Name.j0 k a0 true) else (if a0.toList = ([46] : List UInt8) then (treadleref04_Name.j0 k a0 true) else (treadleref04_Name.j0 k a0 (a0.toList == ([46, 46] : List UInt8)))))
def treadleref04_Names.l0 : Nat → List ByteArray → Int → Option (List ByteArray × Bool)
 | 0, _, _ => none
 | k + 1, x4, x5 => if x5 < (x4.length : Int) then (if 0 ≤ x5 then ((treadleref04_Name.f k (rdOf ByteArray.empty x4 x5)).bind fun t212 => (if t212 = true then (treadleref04_Names.l0 k x4 (wrap64 (x5 + 1))) else (some (([] : List ByteArray), false)))) else (none)) else (if (x4.length : Int) > 32 then (some (([] : List ByteArray), false)) else (some (x4, true)))
def treadleref04_Names.f (k : Nat) (a0 : ByteArray) : Option (List ByteArray × Bool) := if a0.toList = ([] : List UInt8) then (some (([] : List ByteArray), true)) else ((treadleref04_Pieces.f k a0).bind fun t208 => (treadleref04_Names.l0 k t208 0))
def treadleref04_text.l0 : Nat → List ByteArray → ByteArray → Int → Option (ByteArray)
 | 0, _, _, _ => none
 | k + 1, x0, x3, x4 => if x4 < (x0.length : Int) then (if x4 > 0 then (if x3.size + 1 ≤ 9223372036854775807 then (if 0 ≤ x4 then (if (x3 ++ (⟨#[47]⟩ : ByteArray)).size + (rdOf ByteArray.empty x0 x4).size ≤ 9223372036854775807 then (treadleref04_text.l0 k x0 ((x3 ++ (⟨#[47]⟩ : ByteArray)) ++ (rdOf ByteArray.empty x0 x4)) (wrap64 (x4 + 1))) else (none)) else (none)) else (none)) else (if 0 ≤ x4 then (if x3.size + (rdOf ByteArray.empty x0 x4).size ≤ 9223372036854775807 then (treadleref04_text.l0 k x0 (x3 ++ (rdOf ByteArray.empty x0 x4)) (wrap64 (x4 + 1))) else (none)) else (none))) else (some x3)
def treadleref04_text.f (k : Nat) (l0 : List ByteArray) : Option (ByteArray) := treadleref04_text.l0 k l0 (⟨#[]⟩ : ByteArray) 0
def treadleref04_Split.f (k : Nat) (a0 : ByteArray) : Option (ByteArray × ByteArray × Int) := (treadleref04_Names.f k a0).bind fun bt215 => (if bt215.2 = true then (if (bt215.1.length : Int) = 0 then (some ((⟨#[]⟩ : ByteArray), (⟨#[]⟩ : ByteArray), 46)) else (if 0 ≤ (wrap64 ((bt215.1.length : Int) - 1)) then (if (wrap64 ((bt215.1.length : Int) - 1)) ≤ (bt215.1.length : Int) then ((treadleref04_text.f k (bt215.1.take ((wrap64 ((bt215.1.length : Int) - 1)) : Int).toNat)).bind fun t223 => (if (wrap64 ((bt215.1.length : Int) - 1)) < (bt215.1.length : Int) then (some (t223, rdOf ByteArray.empty bt215.1 (wrap64 ((bt215.1.length : Int) - 1)), 0)) else (none))) else (none)) else (none))) else (some ((⟨#[]⟩ : ByteArray), (⟨#[]⟩ : ByteArray), 45)))
def treadleref04_Path.f (k : Nat) (a0 : ByteArray) : Option (Bool) := (treadleref04_Names.f k a0).bind fun bt225 => (some bt225.2)
mutual
def treadleref04_gone.j0 : Nat → List ByteArray → ByteArray → Bool → Option (List ByteArray × Int)
 | 0, _, _, _ => none
 | k + 1, x0, x1, x19 => if x19 = true then (some (([] : List ByteArray), 41)) else (if ([] : List ByteArray).length + x0.length < 8796093022208 then ((treadleref04_Pieces.f k x1).bind fun t232 => (treadleref04_gone.l0 k (([] : List ByteArray) ++ x0) t232 0)) else (none))
def treadleref04_gone.l0 : Nat → List ByteArray → List ByteArray → Int → Option (List ByteArray × Int)
 | 0, _, _, _ => none
 | k + 1, x6, x7, x8 => if x8 < (x7.length : Int) then (if 0 ≤ x8 then (if (rdOf ByteArray.empty x7 x8).toList = ([] : List UInt8) then (treadleref04_gone.j2 k x6 x7 x8 true) else (treadleref04_gone.j2 k x6 x7 x8 ((rdOf ByteArray.empty x7 x8).toList == ([46] : List UInt8)))) else (none)) else (some (x6, 0))
def treadleref04_gone.j2 : Nat → List ByteArray → List ByteArray → Int → Bool → Option (List ByteArray × Int)
 | 0, _, _, _, _ => none
 | k + 1, x6, x7, x8, x31 => if x31 = true then (treadleref04_gone.l0 k x6 x7 (wrap64 (x8 + 1))) else (if 0 ≤ x8 then (if x8 < (x7.length : Int) then (if (rdOf ByteArray.empty x7 x8).toList = ([46, 46] : List UInt8) then (if (x6.length : Int) = 0 then (some (([] : List ByteArray), 43)) else (if 0 ≤ (wrap64 ((x6.length : Int) - 1)) then (if (wrap64 ((x6.length : Int) - 1)) ≤ (x6.length : Int) then (treadleref04_gone.l0 k (x6.take ((wrap64 ((x6.length : Int) - 1)) : Int).toNat) x7 (wrap64 (x8 + 1))) else (none)) else (none))) else ((treadleref04_Name.f k (rdOf ByteArray.empty x7 x8)).bind fun t242 => (if t242 = true then (if x6.length < 8796093022208 then (treadleref04_gone.l0 k (x6 ++ [rdOf ByteArray.empty x7 x8]) x7 (wrap64 (x8 + 1))) else (none)) else (some (([] : List ByteArray), 42))))) else (none)) else (none))
end
def treadleref04_gone.f (k : Nat) (l0 : List ByteArray) (a1 : ByteArray) : Option (List ByteArray × Int) := if (a1.size : Int) > 4096 then (some (([] : List ByteArray), 40)) else (if (a1.size : Int) > 0 then (if 0 < (a1.size : Int) then (treadleref04_gone.j0 k l0 a1 ((bt a1 0) == 47)) else (none)) else (treadleref04_gone.j0 k l0 a1 false))
def treadleref04_Join.l0 : Nat → List ByteArray → List ByteArray → Int → Option (ByteArray × Int)
 | 0, _, _, _ => none
 | k + 1, x1, x6, x9 => if x9 < (x1.length : Int) then (if 0 ≤ x9 then ((treadleref04_gone.f k x6 (rdOf ByteArray.empty x1 x9)).bind fun bt252 => (if bt252.2 = 0 then (treadleref04_Join.l0 k x1 bt252.1 (wrap64 (x9 + 1))) else (some ((⟨#[]⟩ : ByteArray), bt252.2)))) else (none)) else (if (x6.length : Int) > 32 then (some ((⟨#[]⟩ : ByteArray), 44)) else ((treadleref04_text.f k x6).bind fun t256 => (some (t256, 0))))
def treadleref04_Join.f (k : Nat) (a0 : ByteArray) (l1 : List ByteArray) : Option (ByteArray × Int) := (treadleref04_Names.f k a0).bind fun bt247 => (if bt247.2 = true then (treadleref04_Join.l0 k l1 bt247.1 0) else (some ((⟨#[]⟩ : ByteArray), 45)))
def treadleref04_Clean.f (k : Nat) (a0 : ByteArray) : Option (ByteArray × Int) := (treadleref04_Join.f k (⟨#[]⟩ : ByteArray) (([a0] : List ByteArray))).bind fun bt260 => (some (bt260.1, bt260.2))
def treadleref04_Aim.j0 : Nat → ByteArray → ByteArray → Bool → Option (ByteArray × Int)
 | 0, _, _, _ => none
 | k + 1, x0, x1, x19 => if x19 = true then ((treadleref04_Join.f k x0 (([x1] : List ByteArray))).bind fun bt270 => (some (bt270.1, bt270.2))) else ((treadleref04_Clean.f k x1).bind fun bt272 => (some (bt272.1, bt272.2)))
def treadleref04_Aim.f (k : Nat) (a0 : ByteArray) (a1 : ByteArray) : Option (ByteArray × Int) := (treadleref04_Path.f k a0).bind fun t262 => (if t262 = true then ((treadleref04_Pieces.f k a1).bind fun t263 => (if 0 < (t263.length : Int) then (if (rdOf ByteArray.empty t263 0).toList = ([46] : List UInt8) then (treadleref04_Aim.j0 k a0 a1 true) else (treadleref04_Aim.j0 k a0 a1 ((rdOf ByteArray.empty t263 0).toList == ([46, 46] : List UInt8)))) else (none))) else (some ((⟨#[]⟩ : ByteArray), 45)))
mutual
def treadleref13_Aimed.l0 : Nat → List (S35) → ByteArray → List ByteArray → Int → Option (List ByteArray × Int × Int)
 | 0, _, _, _, _ => none
 | k + 1, x1, x7, x10, x11 => if x11 < (x1.length : Int) then (if 0 ≤ x11 then ((treadleref04_Aim.f k x7 ((rd_T35 x1 x11).f0)).bind fun bt278 => (if bt278.2 = 0 then (treadleref13_Aimed.j1 k x1 x7 x10 x11 bt278.1 bt278.2 (bt278.1.toList == ([] : List UInt8))) else (treadleref13_Aimed.j1 k x1 x7 x10 x11 bt278.1 bt278.2 false))) else (none)) else (some (x10, 0, 0))
def treadleref13_Aimed.j1 : Nat → List (S35) → ByteArray → List ByteArray → Int → ByteArray → Int → Bool → Option (List ByteArray × Int × Int)
 | 0, _, _, _, _, _, _, _ => none
 | k + 1, x1, x7, x10, x11, x12, x13, x44 => if x44 = true then (if 46 = 0 then (if x10.length < 8796093022208 then (treadleref13_Aimed.l0 k x1 x7 (x10 ++ [x12]) (wrap64 (x11 + 1))) else (none)) else (if 0 ≤ x11 then (if x11 < (x1.length : Int) then (some (([] : List ByteArray), 46, (rd_T35 x1 x11).f2)) else (none)) else (none))) else (if x13 = 0 then (if x10.length < 8796093022208 then (treadleref13_Aimed.l0 k x1 x7 (x10 ++ [x12]) (wrap64 (x11 + 1))) else (none)) else (if 0 ≤ x11 then (if x11 < (x1.length : Int) then (some (([] : List ByteArray), x13, (rd_T35 x1 x11).f2)) else (none)) else (none)))
end
def treadleref13_Aimed.f (k : Nat) (a0 : ByteArray) (l1 : List (S35)) : Option (List ByteArray × Int × Int) := (treadleref04_Split.f k a0).bind fun bt274 => (if bt274.2.2 = 0 then (treadleref13_Aimed.l0 k l1 bt274.1 ([] : List ByteArray) 0) else (some (([] : List ByteArray), bt274.2.2, 0)))
def treadleref04_Same.l0 : Nat → List ByteArray → List ByteArray → Int → Option (Bool)
 | 0, _, _, _ => none
 | k + 1, x0, x1, x5 => if x5 < (x0.length : Int) then (if 0 ≤ x5 then (if x5 < (x1.length : Int) then (if (rdOf ByteArray.empty x0 x5).toList = (rdOf ByteArray.empty x1 x5).toList then (treadleref04_Same.l0 k x0 x1 (wrap64 (x5 + 1))) else (some false)) else (none)) else (none)) else (some true)
def treadleref04_Same.f (k : Nat) (l0 : List ByteArray) (l1 : List ByteArray) : Option (Bool) := if (l0.length : Int) = (l1.length : Int) then (treadleref04_Same.l0 k l0 l1 0) else (some false)
def lex_digit.f (a0 : Int) : Option (Bool) := if a0 ≥ 48 then (some (decide (a0 ≤ 57))) else (some false)
def lex_nibble.f (a0 : Int) : Option (Int) := (lex_digit.f a0).bind fun t290 => (if t290 = true then (some ((a0 - 48) % 256)) else (if a0 ≥ 97 then (if a0 ≤ 102 then (some (((a0 - 97) % 256) + 10)) else (some (-1))) else (some (-1))))
mutual
def lex_piece.j0 : Nat → ByteArray → Bool → Option (Int × Int)
 | 0, _, _ => none
 | k + 1, x0, x4 => if x4 = true then (some (0, 0)) else (if 0 < (x0.size : Int) then (if (bt x0 0) = 92 then (if (x0.size : Int) < 2 then (some (0, 0)) else (if 1 < (x0.size : Int) then (if (bt x0 1) = 110 then (some (10, 2)) else (if (bt x0 1) = 116 then (some (9, 2)) else (if (bt x0 1) = 34 then (lex_piece.j1 k x0 (bt x0 1) ((bt x0 1) == 34)) else (lex_piece.j1 k x0 (bt x0 1) ((bt x0 1) == 92))))) else (none))) else (some (bt x0 0, 1))) else (none))
def lex_piece.j1 : Nat → ByteArray → Int → Bool → Option (Int × Int)
 | 0, _, _, _ => none
 | k + 1, x0, x33, x38 => if x38 = true then (if 1 < (x0.size : Int) then (some (bt x0 1, 2)) else (none)) else (if x33 = 120 then (if (x0.size : Int) ≥ 4 then (if 2 < (x0.size : Int) then ((lex_nibble.f (bt x0 2)).bind fun t291 => (if t291 ≥ 0 then (if 3 < (x0.size : Int) then ((lex_nibble.f (bt x0 3)).bind fun t292 => (lex_piece.j2 k x0 (decide (t292 ≥ 0)))) else (none)) else (lex_piece.j2 k x0 false))) else (none)) else (lex_piece.j2 k x0 false)) else (some (0, 0)))
def lex_piece.j2 : Nat → ByteArray → Bool → Option (Int × Int)
 | 0, _, _ => none
 | k + 1, x0, x59 => if x59 = true then (if 2 < (x0.size : Int) then ((lex_nibble.f (bt x0 2)).bind fun t293 => (if 3 < (x0.size : Int) then ((lex_nibble.f (bt x0 3)).bind fun t294 => (some ((Go.bits .or .i64 (wrap64 (t293 * 16)) t294) % 256, 4))) else (none))) else (none)) else (some (0, 0))
end
def lex_piece.f (k : Nat) (a0 : ByteArray) : Option (Int × Int) := if a0.toList = ([] : List UInt8) then (lex_piece.j0 k a0 true) else (if 0 < (a0.size : Int) then (if (bt a0 0) < 32 then (lex_piece.j0 k a0 true) else (if (bt a0 0) > 126 then (lex_piece.j0 k a0 true) else (lex_piece.j0 k a0 ((bt a0 0) == 34)))) else (none))
mutual
def lex_quoted.j0 : Nat → ByteArray → Bool → Option (ByteArray × Int)
 | 0, _, _ => none
 | k + 1, x0, x14 => if x14 = true then (some ((⟨#[]⟩ : ByteArray), 0)) else (lex_quoted.l0 k x0 ([] : List Int) 1)
def lex_quoted.l0 : Nat → ByteArray → List Int → Int → Option (ByteArray × Int)
 | 0, _, _, _ => none
 | k + 1, x0, x4, x5 => if x5 < (x0.size : Int) then (if 0 ≤ x5 then (lex_quoted.j2 k x0 x4 x5 ((bt x0 x5) != 34)) else (none)) else (lex_quoted.j2 k x0 x4 x5 false)
def lex_quoted.j2 : Nat → ByteArray → List Int → Int → Bool → Option (ByteArray × Int)
 | 0, _, _, _, _ => none
 | k + 1, x0, x4, x5, x24 => if x24 = true then (if 0 ≤ x5 then (if x5 ≤ (x0.size : Int) then ((lex_piece.f k (x0.extract (x5 : Int).toNat x0.size)).bind fun bt295 => (if bt295.2 = 0 then (some ((⟨#[]⟩ : ByteArray), 0)) else (if (x4.length : Int) ≥ 4096 then (some ((⟨#[]⟩ : ByteArray), 0)) else (if x4.length < 140737488355328 then (lex_quoted.l0 k x0 (x4 ++ [bt295.1]) (wrap64 (x5 + bt295.2))) else (none))))) else (none)) else (none)) else (if x5 ≥ (x0.size : Int) then (some ((⟨#[]⟩ : ByteArray), 0)) else (some (strOfNums x4, wrap64 (x5 + 1))))
end
def lex_quoted.f (k : Nat) (a0 : ByteArray) : Option (ByteArray × Int) := if a0.toList = ([] : List UInt8) then (lex_quoted.j0 k a0 true) else (if 0 < (a0.size : Int) then (lex_quoted.j0 k a0 ((bt a0 0) != 34)) else (none))
def lex_letter.f (a0 : Int) : Option (Bool) := if a0 = 95 then (some true) else (if a0 ≥ 97 then (if a0 ≤ 122 then (some true) else (if a0 ≥ 65 then (some (decide (a0 ≤ 90))) else (some false))) else (if a0 ≥ 65 then (some (decide (a0 ≤ 90))) else (some false)))
def isLetter (c : Int) : Bool := decide (c = 95) || (decide (97 ≤ c) && decide (c ≤ 122)) || (decide (65 ≤ c) && decide (c ≤ 90))
def isDigit (c : Int) : Bool := decide (48 ≤ c) && decide (c ≤ 57)
def fnP (m : Nat) : Option (Int → Bool) :=
 if m = 95 then some (fun c => decide (c ≠ 10))
 else if m = 79 then some (fun c => isLetter c || isDigit c)
 else if m = 80 then some isDigit
 else none
def lex_run.f (a0 : ByteArray) (a1 : Int) (a2 : Nat) : Option (Int) :=
 if 0 ≤ a1 ∧ a1 ≤ a0.size ∧ a0.size ≤ 1099511627776 then (fnP a2).map (fun p => (((a0.data.toList.drop a1.toNat).takeWhile (fun c => p (c.toNat : Int))).length : Int)) else none
def keyTexts : List (List UInt8) := [[105, 110, 99, 108, 117, 100, 101], [97, 115], [101, 120, 112, 111, 114, 116], [99, 111, 110, 115, 116], [102, 117, 110, 99], [118, 97, 114], [105, 102], [101, 108, 115, 101], [119, 104, 105, 108, 101], [114, 101, 116, 117, 114, 110], [112, 114, 105, 110, 116], [116, 114, 117, 101], [102, 97, 108, 115, 101], [105, 110, 116], [98, 111, 111, 108], [116, 101, 120, 116]]
def lex_Key.f (a0 : ByteArray) : Option (Bool) := some (decide (a0.data.toList ∈ keyTexts))
def lex_whole.f (a0 : ByteArray) : Option (Int × Bool) :=
 match a0.data.toList with
 | [] => none
 | c :: _ => if isDigit (c.toNat : Int) = true ∧ a0.size ≤ 1099511627776 then
   match Lib.parseIntB 64 a0.data.toList with
   | .ok v => some (v, decide (Lib.itoa v = a0.data.toList))
   | .range => some (9223372036854775807, false)
   | .syntax => none
  else none
def stringslite_IndexByte.f (a0 : ByteArray) (a1 : Int) : Option (Int) := some (Lib.indexByte a0.data.toList a1.toNat.toUInt8)
def strings_IndexByte.f (a0 : ByteArray) (a1 : Int) : Option (Int) := (stringslite_IndexByte.f a0 a1).bind fun t300 => (some t300)
def twoSigns : List (List UInt8) := [[61, 61], [33, 61], [60, 61], [62, 61], [43, 43], [38, 38], [124, 124]]
def oneSigns : List UInt8 := [40, 41, 123, 125, 44, 59, 58, 46, 61, 60, 62, 43, 45, 42, 47, 37, 33, 35]
def lex_sign.f (a0 : ByteArray) : Option (Int) := if twoSigns.any (fun t => decide (a0.data.toList.take 2 = t)) = true then some 2 else if a0.size = 0 then none else if Lib.indexByte oneSigns ((bt a0 0).toNat.toUInt8) ≥ 0 then some 1 else some 0
def lex_token.j0 : Nat → Int → Bool → Option (Int × Int × Int)
 | 0, _, _ => none
 | k + 1, x7, x53 => if x53 = true then (some (0, 0, 121)) else (some (2, x7, 0))
def lex_token.f (k : Nat) (a0 : ByteArray) : Option (Int × Int × Int) := if 0 < (a0.size : Int) then ((lex_letter.f (bt a0 0)).bind fun t301 => (if t301 = true then ((lex_run.f a0 0 79).bind fun t302 => (if t302 > 32 then (some (0, 0, 123)) else (if 0 ≤ t302 then (if t302 ≤ (a0.size : Int) then ((lex_Key.f (a0.extract 0 (t302 : Int).toNat)).bind fun t303 => (if t303 = true then (some (4, t302, 0)) else (some (1, t302, 0)))) else (none)) else (none)))) else ((lex_digit.f (bt a0 0)).bind fun t304 => (if t304 = true then ((lex_run.f a0 0 80).bind fun t305 => (if 0 ≤ t305 then (if t305 ≤ (a0.size : Int) then ((lex_whole.f (a0.extract 0 (t305 : Int).toNat)).bind fun bt306 => (if bt306.2 = true then (if t305 < (a0.size : Int) then ((lex_letter.f (bt a0 t305)).bind fun t308 => (lex_token.j0 k t305 t308)) else (lex_token.j0 k t305 false)) else (lex_token.j0 k t305 true))) else (none)) else (none))) else (if (bt a0 0) = 34 then ((lex_quoted.f k a0).bind fun bt309 => (if bt309.2 = 0 then (some (0, 0, 122)) else (some (3, bt309.2, 0)))) else ((lex_sign.f a0).bind fun t311 => (if t311 = 0 then (some (0, 0, 120)) else (some (5, t311, 0))))))))) else (none)
def lex_gap.l0 : Nat → ByteArray → Int → Option (Int)
 | 0, _, _ => none
 | k + 1, x0, x1 => if x1 < (x0.size : Int) then (if 0 ≤ x1 then ((strings_IndexByte.f (⟨#[32, 9, 10, 13]⟩ : ByteArray) (bt x0 x1)).bind fun t312 => (if t312 ≥ 0 then (lex_gap.l0 k x0 (wrap64 (x1 + 1))) else (if x1 ≤ (x0.size : Int) then ((strings_HasPrefix.f (x0.extract (x1 : Int).toNat x0.size) (⟨#[47, 47]⟩ : ByteArray)).bind fun t313 => (if t313 = true then ((lex_run.f x0 x1 95).bind fun t314 => (lex_gap.l0 k x0 (wrap64 (x1 + t314)))) else (some x1))) else (none)))) else (none)) else (some x1)
def lex_gap.f (k : Nat) (a0 : ByteArray) (a1 : Int) : Option (Int) := lex_gap.l0 k a0 a1
def lex_Next.f (k : Nat) (a0 : ByteArray) (a1 : Int) : Option (Int × Int × Int × Int) := if (a0.size : Int) > 65536 then (some (0, 0, 0, 3)) else (if a1 < 0 then (some (0, 0, 0, 1)) else (if a1 > (a0.size : Int) then (some (0, 0, 0, 1)) else ((lex_gap.f k a0 a1).bind fun t316 => (if t316 = (a0.size : Int) then (some (0, t316, t316, 0)) else (if 0 ≤ t316 then (if t316 ≤ (a0.size : Int) then ((lex_token.f k (a0.extract (t316 : Int).toNat a0.size)).bind fun bt317 => (if bt317.2.2 = 0 then (some (bt317.1, t316, wrap64 (t316 + bt317.2.1), 0)) else (some (0, t316, 0, bt317.2.2)))) else (none)) else (none))))))
def lex_Text.f (k : Nat) (a0 : ByteArray) : Option (ByteArray × Int) := (lex_quoted.f k a0).bind fun bt320 => (if bt320.2 = 0 then (some ((⟨#[]⟩ : ByteArray), 122)) else (if bt320.2 = (a0.size : Int) then (some (bt320.1, 0)) else (some ((⟨#[]⟩ : ByteArray), 122))))
def IsS76 (w0 W : World) (g : Nat) (f0 : ByteArray) (f1 : Int) : Prop := W.heap[g]? = some (.cells #[.string f0, .int .i64 f1] 76 (0, 0)) ∧ w0.heap.size ≤ g
theorem IsS76.grown {w0 W : World} {g : Nat} {f0 : ByteArray} {f1 : Int} {W1 : World} {row : Option Nat} (h : IsS76 w0 W g f0 f1) (hw : W.grownBy W1 row) (hne : some g ≠ row) : IsS76 w0 W1 g f0 f1 := by
 obtain ⟨hb, hg⟩ := h
 exact ⟨blk_grown hb hw hne, hg⟩
theorem IsS76.kept {w0 W : World} {g : Nat} {f0 : ByteArray} {f1 : Int} {W1 : World} {S : Nat → Prop} (h : IsS76 w0 W g f0 f1) (hk : Kept W W1 S) (hne : ¬ S g) : IsS76 w0 W1 g f0 f1 := by
 obtain ⟨hb, hg⟩ := h
 exact ⟨blk_kept hb hk hne, hg⟩
theorem IsS76.below {w0 W : World} {g : Nat} {f0 : ByteArray} {f1 : Int} {W1 : World} (h : IsS76 w0 W g f0 f1) (hw : Below W.heap.size W W1) : IsS76 w0 W1 g f0 f1 := h.grown (grown_of_below hw none) (by simp)
theorem IsS76.alloc {w0 W : World} {g : Nat} {f0 : ByteArray} {f1 : Int} (h : IsS76 w0 W g f0 f1) (o : Obj) : IsS76 w0 (W.alloc o) g f0 f1 := h.below (below_alloc (Below.refl _ _) o)
theorem IsS76.drewN {w0 W : World} {g : Nat} {f0 : ByteArray} {f1 : Int} (h : IsS76 w0 W g f0 f1) (m : Nat) : IsS76 w0 (W.drewN m) g f0 f1 := h
theorem IsS76.drew {w0 W : World} {g : Nat} {f0 : ByteArray} {f1 : Int} (h : IsS76 w0 W g f0 f1) : IsS76 w0 W.drew g f0 f1 := h
theorem IsS76.at_ {w0 W : World} {g : Nat} {f0 : ByteArray} {f1 : Int} {w' : World} {m : Nat} (hq : W.drewN m = w') (h : IsS76 w0 W g f0 f1) : IsS76 w0 w' g f0 f1 := by subst hq; exact IsS76.drewN h m
theorem IsS76.apart {w0 W : World} {g : Nat} {f0 : ByteArray} {f1 : Int} {α : Type} {d : Kd α} {e : Nat} {base : Nat} {ok : Nat → Prop} {v : Value} {xs : List α} (h : IsS76 w0 W g f0 f1) (ho : d.R e W base ok v xs) (ht : ∀ q, q ∈ e :: d.E → q ≠ 76) : d.R e W base (fun k => ok k ∧ k ≠ g) v xs := by
 obtain ⟨hb, hg⟩ := h
 exact Kd.R_types ho hb ht
theorem IsS76.own_ne {w0 W : World} {g : Nat} {f0 : ByteArray} {f1 : Int} {α : Type} {d : Kd α} {e : Nat} {base : Nat} {ok : Nat → Prop} {v : Value} {xs : List α} (h : IsS76 w0 W g f0 f1) (ho : d.R e W base ok v xs) (ht : e ≠ 76) : some g ≠ v.ownBlock := by
 obtain ⟨hb, hg⟩ := h
 exact Kd.R_ne ho hb ht
theorem IsS76.lt {w0 W : World} {g : Nat} {f0 : ByteArray} {f1 : Int} (h : IsS76 w0 W g f0 f1) : g < W.heap.size := by
 obtain ⟨hb, hg⟩ := h
 exact blk_lt hb
theorem IsS76.ge {w0 W : World} {g : Nat} {f0 : ByteArray} {f1 : Int} (h : IsS76 w0 W g f0 f1) : w0.heap.size ≤ g := by
 obtain ⟨hb, hg⟩ := h
 exact hg
theorem IsS76.far {w0 W : World} {g : Nat} {f0 : ByteArray} {f1 : Int} {p : Addr} (h : IsS76 w0 W g f0 f1) (hne : g ≠ p.block) (u : Value) : IsS76 w0 (W.setCell p u) g f0 f1 := by
 obtain ⟨hb, hg⟩ := h
 exact ⟨blk_far hb hne u, hg⟩
theorem cellS76_0 {W : World} {g : Nat} {f0 : ByteArray} {f1 : Int} (h : W.heap[g]? = some (.cells #[.string f0, .int .i64 f1] 76 (0, 0))) : W.cell? ⟨g, 0, none⟩ = some (.string f0) := (blk_cell h 0).trans rfl
theorem IsS76.set_0 {w0 W : World} {g : Nat} {f0 : ByteArray} {f1 : Int} (h : IsS76 w0 W g f0 f1) (x : ByteArray) : IsS76 w0 (W.setCell ⟨g, 0, none⟩ (.string x)) g x f1 := by
 obtain ⟨hb, hg⟩ := h
 exact ⟨by simpa using blk_set hb 0 (.string x), hg⟩
theorem cellS76_1 {W : World} {g : Nat} {f0 : ByteArray} {f1 : Int} (h : W.heap[g]? = some (.cells #[.string f0, .int .i64 f1] 76 (0, 0))) : W.cell? ⟨g, 1, none⟩ = some (.int .i64 f1) := (blk_cell h 1).trans rfl
theorem IsS76.set_1 {w0 W : World} {g : Nat} {f0 : ByteArray} {f1 : Int} (h : IsS76 w0 W g f0 f1) (x : Int) : IsS76 w0 (W.setCell ⟨g, 1, none⟩ (.int .i64 x)) g f0 x := by
 obtain ⟨hb, hg⟩ := h
 exact ⟨by simpa using blk_set hb 1 (.int .i64 x), hg⟩
def scan_reader_next.f (k : Nat) (s0_0 : ByteArray) (s0_1 : Int) : Option (Bool × Int × Int × Int × Int × Int × ByteArray × ByteArray × Int) := (lex_Next.f k s0_0 s0_1).bind fun bt323 => (if bt323.2.2.2 = 0 then (if 0 ≤ bt323.2.1 then (if bt323.2.1 ≤ bt323.2.2.1 then (if bt323.2.2.1 ≤ (s0_0.size : Int) then (some (false, 0, 0, bt323.1, bt323.2.1, bt323.2.2.1, s0_0.extract (bt323.2.1 : Int).toNat (bt323.2.2.1 : Int).toNat, s0_0, bt323.2.2.1)) else (none)) else (none)) else (none)) else (some (true, bt323.2.2.2, bt323.2.1, 0, 0, 0, (⟨#[]⟩ : ByteArray), s0_0, s0_1)))
def scan_reader_want.f (k : Nat) (s0_0 : ByteArray) (s0_1 : Int) (a1 : Int) (a2 : ByteArray) : Option (Bool × Int × Int × ByteArray × ByteArray × Int) := (scan_reader_next.f k s0_0 s0_1).bind fun bt328 => (if bt328.1 = true then (some (true, bt328.2.1, bt328.2.2.1, (⟨#[]⟩ : ByteArray), bt328.2.2.2.2.2.2.2.1, bt328.2.2.2.2.2.2.2.2)) else (if bt328.2.2.2.1 = a1 then (if a2.toList = ([] : List UInt8) then (some (false, 0, 0, bt328.2.2.2.2.2.2.1, bt328.2.2.2.2.2.2.2.1, bt328.2.2.2.2.2.2.2.2)) else (if bt328.2.2.2.2.2.2.1.toList = a2.toList then (some (false, 0, 0, bt328.2.2.2.2.2.2.1, bt328.2.2.2.2.2.2.2.1, bt328.2.2.2.2.2.2.2.2)) else (some (true, 130, bt328.2.2.2.2.1, (⟨#[]⟩ : ByteArray), bt328.2.2.2.2.2.2.2.1, bt328.2.2.2.2.2.2.2.2)))) else (some (true, 130, bt328.2.2.2.2.1, (⟨#[]⟩ : ByteArray), bt328.2.2.2.2.2.2.2.1, bt328.2.2.2.2.2.2.2.2))))
def scan_reader_include.j0 : Nat → Bool → ByteArray → Int → Int → Int → Int → Option (Bool × Int × Int × ByteArray × ByteArray × Int × Bool × ByteArray × Int)
 | 0, _, _, _, _, _, _ => none
 | k + 1, x37, x1000, x1001, x344000, x344001, x344002 => if x37 = true then (some (false, 0, 0, (⟨#[]⟩ : ByteArray), (⟨#[]⟩ : ByteArray), 0, false, x1000, x1001)) else ((scan_reader_want.f k x1000 x344002 3 (⟨#[]⟩ : ByteArray)).bind fun bt345 => (if bt345.1 = true then (some (true, bt345.2.1, bt345.2.2.1, (⟨#[]⟩ : ByteArray), (⟨#[]⟩ : ByteArray), 0, false, bt345.2.2.2.2.1, bt345.2.2.2.2.2)) else ((lex_Text.f k bt345.2.2.2.1).bind fun bt351 => ((scan_reader_want.f k bt345.2.2.2.2.1 bt345.2.2.2.2.2 4 (⟨#[97, 115]⟩ : ByteArray)).bind fun bt353 => (if bt353.1 = true then (some (true, bt353.2.1, bt353.2.2.1, (⟨#[]⟩ : ByteArray), (⟨#[]⟩ : ByteArray), 0, false, bt353.2.2.2.2.1, bt353.2.2.2.2.2)) else ((scan_reader_want.f k bt353.2.2.2.2.1 bt353.2.2.2.2.2 1 (⟨#[]⟩ : ByteArray)).bind fun bt359 => (if bt359.1 = true then (some (true, bt359.2.1, bt359.2.2.1, (⟨#[]⟩ : ByteArray), (⟨#[]⟩ : ByteArray), 0, false, bt359.2.2.2.2.1, bt359.2.2.2.2.2)) else ((scan_reader_want.f k bt359.2.2.2.2.1 bt359.2.2.2.2.2 5 (⟨#[59]⟩ : ByteArray)).bind fun bt365 => (if bt365.1 = true then (some (true, bt365.2.1, bt365.2.2.1, (⟨#[]⟩ : ByteArray), (⟨#[]⟩ : ByteArray), 0, false, bt365.2.2.2.2.1, bt365.2.2.2.2.2)) else (some (false, 0, 0, bt351.1, bt359.2.2.2.1, x344001, true, bt365.2.2.2.2.1, bt365.2.2.2.2.2)))))))))))
def scan_reader_include.f (k : Nat) (s0_0 : ByteArray) (s0_1 : Int) : Option (Bool × Int × Int × ByteArray × ByteArray × Int × Bool × ByteArray × Int) := (lex_Next.f k s0_0 s0_1).bind fun bt339 => (if bt339.2.2.2 = 0 then (if bt339.1 = 4 then (if 0 ≤ bt339.2.1 then (if bt339.2.1 ≤ bt339.2.2.1 then (if bt339.2.2.1 ≤ (s0_0.size : Int) then (scan_reader_include.j0 k ((s0_0.extract (bt339.2.1 : Int).toNat (bt339.2.2.1 : Int).toNat).toList != ([105, 110, 99, 108, 117, 100, 101] : List UInt8)) s0_0 s0_1 bt339.1 bt339.2.1 bt339.2.2.1) else (none)) else (none)) else (none)) else (scan_reader_include.j0 k true s0_0 s0_1 bt339.1 bt339.2.1 bt339.2.2.1)) else (scan_reader_include.j0 k true s0_0 s0_1 bt339.1 bt339.2.1 bt339.2.2.1))
def scan_found.l0 : Nat → ByteArray → List S35 → Int → Option (List S35 × Int × Int × Int)
 | 0, _, _, _ => none
 | k + 1, s, l, i => (scan_reader_include.f k s i).bind fun t =>
   if t.1 = true then some (([] : List S35), 0, t.2.1, t.2.2.1)
   else if t.2.2.2.2.2.2.1 = true then (if l.length < 3518437208883 then scan_found.l0 k t.2.2.2.2.2.2.2.1 (l ++ [(⟨t.2.2.2.1, t.2.2.2.2.1, t.2.2.2.2.2.1⟩ : S35)]) t.2.2.2.2.2.2.2.2 else none)
   else some (l, t.2.2.2.2.2.2.2.2, 0, 0)
def scan_found.f (k : Nat) (a0 : ByteArray) : Option (List S35 × Int × Int × Int) := if (a0.size : Int) > 65536 then some (([] : List S35), 0, 3, 0) else scan_found.l0 k a0 ([] : List S35) 0
def scan_Includes.f (k : Nat) (a0 : ByteArray) : Option ((List (S35)) × Int × Int) := (scan_found.f k a0).bind fun bt372 => (some (bt372.1, bt372.2.2.1, bt372.2.2.2))
def scan_Head.f (k : Nat) (a0 : ByteArray) : Option (Int) := (scan_found.f k a0).bind fun bt379 => (some bt379.2.1)
def treadlelaw13_alive.f (k : Nat)  : Option (Bool) := (scan_Includes.f k (⟨#[105, 110, 99, 108, 117, 100, 101, 32, 34, 97, 46, 109, 34, 32, 97, 115, 32, 97, 59, 32, 99, 111, 110, 115, 116]⟩ : ByteArray)).bind fun bt386 => (if (bt386.2.1 == 0 && (bt386.2.2 == 0)) = true then (if (bt386.1.length : Int) = 1 then (if 0 < (bt386.1.length : Int) then (if ((((rd_T35 bt386.1 0).f0).toList) == ([97, 46, 109] : List UInt8) && ((((rd_T35 bt386.1 0).f1).toList) == ([97] : List UInt8) && (((rd_T35 bt386.1 0).f2) == 0))) = true then ((scan_Head.f k (⟨#[105, 110, 99, 108, 117, 100, 101, 32, 34, 97, 34, 32, 97, 115, 32, 97, 59]⟩ : ByteArray)).bind fun t393 => (some (t393 == 17))) else (some false)) else (none)) else (some false)) else (some false))
def treadlelaw13_ScanAims.f (k : Nat) (a0 : ByteArray) (l1 : List (S35)) : Option (Bool) := (scan_Aimed.f k a0 l1).bind fun bt394 => ((treadleref13_Aimed.f k a0 l1).bind fun bt400 => ((treadleref04_Same.f k bt394.1 bt400.1).bind fun t405 => (if t405 = true then (if bt394.2.1 = bt400.2.1 then (if bt394.2.2 = bt400.2.2 then ((treadlelaw13_alive.f k).bind fun t406 => (some t406)) else (some false)) else (some false)) else (some false))))
def treadleref12_Digit.f (a0 : Int) : Option (Bool) := if a0 ≥ 48 then (some (decide (a0 ≤ 57))) else (some false)
def treadleref12_half.f (a0 : Int) : Option (Int) := (treadleref12_Digit.f a0).bind fun t407 => (if t407 = true then (some ((a0 - 48) % 256)) else (if a0 ≥ 97 then (if a0 ≤ 102 then (some ((((a0 - 97) % 256) + 10) % 256)) else (some 16)) else (some 16)))
mutual
def treadleref12_piece.j0 : Nat → ByteArray → Int → Int → Bool → Option (Int × Int)
 | 0, _, _, _, _ => none
 | k + 1, x0, x1, x35, x40 => if x40 = true then (if 0 ≤ (wrap64 (x1 + 1)) then (if (wrap64 (x1 + 1)) < (x0.size : Int) then (some (bt x0 (wrap64 (x1 + 1)), 2)) else (none)) else (none)) else (if x35 = 120 then (if (wrap64 (x1 + 3)) < (x0.size : Int) then (if 0 ≤ (wrap64 (x1 + 2)) then (if (wrap64 (x1 + 2)) < (x0.size : Int) then ((treadleref12_half.f (bt x0 (wrap64 (x1 + 2)))).bind fun t408 => (if t408 < 16 then (if 0 ≤ (wrap64 (x1 + 3)) then ((treadleref12_half.f (bt x0 (wrap64 (x1 + 3)))).bind fun t409 => (treadleref12_piece.j1 k x0 x1 (decide (t409 < 16)))) else (none)) else (treadleref12_piece.j1 k x0 x1 false))) else (none)) else (none)) else (treadleref12_piece.j1 k x0 x1 false)) else (some (0, 0)))
def treadleref12_piece.j1 : Nat → ByteArray → Int → Bool → Option (Int × Int)
 | 0, _, _, _ => none
 | k + 1, x0, x1, x69 => if x69 = true then (if 0 ≤ (wrap64 (x1 + 2)) then (if (wrap64 (x1 + 2)) < (x0.size : Int) then ((treadleref12_half.f (bt x0 (wrap64 (x1 + 2)))).bind fun t410 => (if 0 ≤ (wrap64 (x1 + 3)) then (if (wrap64 (x1 + 3)) < (x0.size : Int) then ((treadleref12_half.f (bt x0 (wrap64 (x1 + 3)))).bind fun t411 => (some (Go.bits .or .u8 ((t410 * 16) % 256) t411, 4))) else (none)) else (none))) else (none)) else (none)) else (some (0, 0))
end
def treadleref12_piece.f (k : Nat) (a0 : ByteArray) (a1 : Int) : Option (Int × Int) := if a1 ≥ (a0.size : Int) then (some (0, 0)) else (if 0 ≤ a1 then (if a1 < (a0.size : Int) then (if (bt a0 a1) = 92 then (if (wrap64 (a1 + 1)) ≥ (a0.size : Int) then (some (0, 0)) else (if 0 ≤ (wrap64 (a1 + 1)) then (if (wrap64 (a1 + 1)) < (a0.size : Int) then (if (bt a0 (wrap64 (a1 + 1))) = 110 then (some (10, 2)) else (if (bt a0 (wrap64 (a1 + 1))) = 116 then (some (9, 2)) else (if (bt a0 (wrap64 (a1 + 1))) = 34 then (treadleref12_piece.j0 k a0 a1 (bt a0 (wrap64 (a1 + 1))) ((bt a0 (wrap64 (a1 + 1))) == 34)) else (treadleref12_piece.j0 k a0 a1 (bt a0 (wrap64 (a1 + 1))) ((bt a0 (wrap64 (a1 + 1))) == 92))))) else (none)) else (none))) else (if (bt a0 a1) < 32 then (some (0, 0)) else (if (bt a0 a1) > 126 then (some (0, 0)) else (if (bt a0 a1) = 34 then (some (0, 0)) else (some (bt a0 a1, 1)))))) else (none)) else (none))
mutual
def treadleref12_quoted.l0 : Nat → ByteArray → List Int → Int → Option (ByteArray × Int)
 | 0, _, _, _ => none
 | k + 1, x0, x6, x7 => if x7 < (x0.size : Int) then (if 0 ≤ x7 then (treadleref12_quoted.j1 k x0 x6 x7 ((bt x0 x7) == 34)) else (none)) else (treadleref12_quoted.j1 k x0 x6 x7 false)
def treadleref12_quoted.j1 : Nat → ByteArray → List Int → Int → Bool → Option (ByteArray × Int)
 | 0, _, _, _, _ => none
 | k + 1, x0, x6, x7, x21 => if x21 = true then (if (x6.length : Int) > 4096 then (some ((⟨#[]⟩ : ByteArray), (-1))) else (some (strOfNums x6, wrap64 (x7 + 1)))) else ((treadleref12_piece.f k x0 x7).bind fun bt412 => (if bt412.2 = 0 then (some ((⟨#[]⟩ : ByteArray), (-1))) else (if x6.length < 140737488355328 then (treadleref12_quoted.l0 k x0 (x6 ++ [bt412.1]) (wrap64 (x7 + bt412.2))) else (none))))
end
def treadleref12_quoted.f (k : Nat) (a0 : ByteArray) (a1 : Int) : Option (ByteArray × Int) := treadleref12_quoted.l0 k a0 ([] : List Int) (wrap64 (a1 + 1))
def treadleref12_Letter.f (a0 : Int) : Option (Bool) := if a0 = 95 then (some true) else (if a0 ≥ 97 then (if a0 ≤ 122 then (some true) else (if a0 ≥ 65 then (some (decide (a0 ≤ 90))) else (some false))) else (if a0 ≥ 65 then (some (decide (a0 ≤ 90))) else (some false)))
def treadleref12_Text.j0 : Nat → ByteArray → Bool → Option (ByteArray × Int)
 | 0, _, _ => none
 | k + 1, x0, x13 => if x13 = true then (some ((⟨#[]⟩ : ByteArray), 122)) else ((treadleref12_quoted.f k x0 0).bind fun bt458 => (if bt458.2 = (x0.size : Int) then (some (bt458.1, 0)) else (some ((⟨#[]⟩ : ByteArray), 122))))
def treadleref12_Text.f (k : Nat) (a0 : ByteArray) : Option (ByteArray × Int) := if (a0.size : Int) = 0 then (treadleref12_Text.j0 k a0 true) else (if 0 < (a0.size : Int) then (treadleref12_Text.j0 k a0 ((bt a0 0) != 34)) else (none))
mutual
def treadleref12_name.j0 : Nat → ByteArray → Bool → Option (Bool)
 | 0, _, _ => none
 | k + 1, x0, x17 => if x17 = true then (some false) else (treadleref12_name.l0 k x0 0)
def treadleref12_name.l0 : Nat → ByteArray → Int → Option (Bool)
 | 0, _, _ => none
 | k + 1, x0, x3 => if x3 < (x0.size : Int) then (if 0 ≤ x3 then ((treadleref12_Letter.f (bt x0 x3)).bind fun t461 => (if t461 = true then (treadleref12_name.l0 k x0 (wrap64 (x3 + 1))) else ((treadleref12_Digit.f (bt x0 x3)).bind fun t462 => (if t462 = true then (treadleref12_name.l0 k x0 (wrap64 (x3 + 1))) else (some false))))) else (none)) else (some true)
end
def treadleref12_name.f (k : Nat) (a0 : ByteArray) : Option (Bool) := if (a0.size : Int) = 0 then (treadleref12_name.j0 k a0 true) else (if (a0.size : Int) > 32 then (treadleref12_name.j0 k a0 true) else (if 0 < (a0.size : Int) then ((treadleref12_Letter.f (bt a0 0)).bind fun t460 => (treadleref12_name.j0 k a0 (!t460))) else (none)))
end Go.Proofs.YtifachjefpcgcaaGreatDoor.P
