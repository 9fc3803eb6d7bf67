/-
  Stubs: the functions of its examples that the kernel runs (their code, what is kept behind each region). Conditions: none.
-/
import Derived.Test.YticoemblgkemiaaGreatDoorZStC
set_option linter.unusedSimpArgs false
set_option linter.unusedVariables false
namespace Go.Proofs.YticoemblgkemiaaGreatDoor
open Go.RowKit
def kq8 (r:Nat):List (Nat×Option Nat):=match r with
 | 0=>[]
 | 1=>kpn [1,2]
 | 2=>kpn [1,2,3,4]
 | 3=>kpn [1,2,3,4,5,6]
 | 4=>kpn [1,2,3,4,5,6,7,8]
 | 5=>kpn [1,2,3,4,5,6,7,8,9,10]
 | 6=>kpn [1,2,3,4,5,6,7,8,9,10,11,12]
 | 7=>kpn [1,2,3,4,5,6,7,8,9,10,11,12,14]
 | 8=>[(0,none)]
 | _=>[]
def kq13 (r:Nat):List (Nat×Option Nat):=match r with
 | 0=>kpn [1,2]
 | 1=>kpn [1,6,7]
 | 2=>kpn [1,6,7,14]
 | 3=>kpn [4,5]
 | 4=>kpn [1,6,18]
 | 5=>kpn [4,5]
 | 6=>[(22,none)]
 | 7=>kpn [4,5]
 | 8=>kpn [4,5]
 | _=>[]
def kq34 (r:Nat):List (Nat×Option Nat):=match r with
 | 0=>kpn [1,2,4]
 | 1=>kpn [4,5,6]
 | 2=>kpn [4,5,6,17]
 | 3=>kpn [4,5]
 | 4=>kpn [4,5,6,7,8]
 | 5=>kpn [4,5,6,7,25]
 | 6=>kpn [4,5]
 | 7=>kpn [4,5,7,27]
 | 8=>kpn [4,5,7,9]
 | 9=>kpn [4,5,7]
 | 10=>kpn [4,5]
 | _=>[]
def kq35 (r:Nat):List (Nat×Option Nat):=match r with
 | 0=>[(0,none)]
 | 1=>[(0,none)]
 | _=>[]
def kq36 (r:Nat):List (Nat×Option Nat):=match r with
 | 0=>kpn [0,1]
 | 1=>[(4,none)]
 | _=>[]
def kq37 (r:Nat):List (Nat×Option Nat):=match r with
 | 0=>kpn [1,2,3,4,8]
 | 1=>kpn [2,3,8,9,10]
 | 2=>kpn [2,3,8,9,10,19]
 | 3=>kpn [8,9]
 | 4=>kpn [2,3,8,10,24]
 | 5=>kpn [8,9]
 | 6=>kpn [2,3,8,11,12]
 | 7=>kpn [2,3,8,11,45]
 | 8=>kpn [8,9]
 | 9=>kpn [8,9]
 | _=>[]
def kq38 (r:Nat):List (Nat×Option Nat):=match r with
 | 0=>kpn [1,2,4]
 | 1=>kpn [4,5,6]
 | 2=>kpn [4,5,6,18]
 | 3=>kpn [4,5]
 | 4=>kpn [4,5,6,8]
 | 5=>kpn [4,5,6,25]
 | 6=>kpn [4,5]
 | 7=>kpn [4,5,6,9]
 | 8=>kpn [4,5,6,9,28]
 | 9=>kpn [4,5,6,9,10]
 | 10=>kpn [4,5,6,9,10,33]
 | 11=>kpn [4,5,6,9]
 | 12=>kpn [4,40]
 | 13=>kpn [4,5]
 | 14=>kpn [4,5]
 | _=>[]
def kq39 (r:Nat):List (Nat×Option Nat):=match r with
 | 0=>kpn [1,2,3,6]
 | 1=>kpn [1,2,6,7,8]
 | 2=>kpn [1,2,6,7,8,17]
 | 3=>kpn [6,7]
 | 4=>kpn [1,2,6,8,22]
 | 5=>kpn [6,7]
 | 6=>kpn [1,2,6,9,10]
 | 7=>kpn [1,2,6,9,46]
 | 8=>kpn [6,7]
 | 9=>kpn [6,7]
 | _=>[]
def kq40 (r:Nat):List (Nat×Option Nat):=match r with
 | 0=>kpn [0,2]
 | 1=>[(2,none)]
 | _=>[]
def kq41 (r:Nat):List (Nat×Option Nat):=match r with
 | 0=>[]
 | 1=>[(0,none)]
 | _=>[]
def kq42 (r:Nat):List (Nat×Option Nat):=match r with
 | 0=>[(1,none),(2,none),(4,some 1)]
 | 1=>[(1,none),(4,some 1),(5,none),(6,none)]
 | 2=>[(1,none),(4,some 1),(5,none),(6,none),(25,none)]
 | 3=>[(4,some 1),(5,none)]
 | 4=>[(1,none),(4,some 1),(6,none),(7,none)]
 | 5=>[(1,none),(4,some 1),(6,none),(7,none),(8,none)]
 | 6=>[(1,none),(4,some 1),(6,none),(7,none),(8,none),(34,none),(35,none)]
 | 7=>[(1,none),(4,some 1),(6,none),(7,none),(8,none),(34,none),(35,none),(36,none)]
 | 8=>[(1,none),(4,some 1),(6,none),(7,none),(8,none),(9,none),(34,none),(35,none)]
 | 9=>[(1,none),(4,some 1),(6,none),(7,none),(8,none),(9,none),(10,some 3),(34,none),(35,none)]
 | 10=>[(1,none),(4,some 1),(6,none),(7,none),(8,none),(9,none),(10,some 3),(11,none),(34,none),(35,none)]
 | 11=>[(1,none),(4,some 1),(6,none),(7,none),(8,none),(9,none),(10,some 3),(11,none),(34,none),(35,none),(40,none),(41,none),(42,none)]
 | 12=>[(1,none),(4,some 1),(6,none),(7,none),(8,none),(9,none),(10,some 3),(11,none),(34,none),(35,none),(40,none),(41,none),(42,none),(43,none)]
 | 13=>[(1,none),(4,some 1),(6,none),(7,none),(8,none),(9,none),(10,some 3),(11,none),(12,none),(13,none),(34,none),(35,none),(40,none),(41,none),(42,none)]
 | 14=>[(1,none),(4,some 1),(6,none),(7,none),(8,none),(9,none),(10,some 3),(11,none),(13,none),(34,none),(35,none),(40,none),(41,none),(42,none),(55,none)]
 | 15=>[(1,none),(4,some 1),(6,none),(7,none),(8,none),(9,none),(10,some 3),(11,none),(13,none),(34,none),(35,none),(40,none),(41,none),(42,none)]
 | 16=>[(1,none),(4,some 1),(6,none),(7,none),(8,none),(9,none),(10,some 3),(11,none),(34,none),(35,none),(40,none),(41,none),(42,none)]
 | 17=>[(1,none),(4,some 1),(6,none),(7,none),(8,none),(9,none),(10,some 3),(11,none),(34,none),(35,none),(40,none),(41,none),(42,none)]
 | 18=>[(1,none),(4,some 1),(6,none),(7,none),(8,none),(11,none),(34,none),(35,none),(80,none)]
 | 19=>[(1,none),(4,some 1),(6,none),(7,none),(8,none),(11,none),(14,none),(34,none),(35,none)]
 | 20=>[(1,none),(4,some 1),(6,none),(7,none),(8,none),(11,none),(14,none),(34,none),(35,none),(81,none),(82,none),(83,none)]
 | 21=>[(1,none),(4,some 1),(6,none),(7,none),(8,none),(11,none),(14,none),(34,none),(35,none),(81,none),(82,none),(83,none),(84,none)]
 | 22=>[(1,none),(4,some 1),(6,none),(7,none),(8,none),(11,none),(14,none),(16,none),(34,none),(35,none),(81,none),(82,none),(83,none)]
 | 23=>[(1,none),(4,some 1),(6,none),(7,none),(8,none),(11,none),(14,none),(34,none),(35,none),(81,none),(82,none),(83,none)]
 | 24=>[(1,none),(4,some 1),(6,none),(7,none),(8,none),(11,none),(14,none),(34,none),(35,none),(81,none),(82,none),(83,none)]
 | 25=>[(1,none),(4,some 1),(6,none),(7,none),(8,none),(11,none),(34,none),(35,none),(101,none)]
 | 26=>[(1,none),(4,some 1),(6,none),(7,none),(8,none),(34,none),(35,none)]
 | 27=>[(1,none),(4,some 1),(6,none),(7,none),(8,none),(34,none),(35,none)]
 | 28=>[(1,none),(4,some 1),(8,none),(105,none),(106,none)]
 | 29=>[(1,none),(4,some 1),(8,none),(105,none),(106,none),(107,none)]
 | 30=>[(1,none),(4,some 1),(8,none),(17,none),(105,none),(106,none)]
 | 31=>[(1,none),(4,some 1),(8,none),(17,none),(105,none),(106,none),(118,none)]
 | 32=>[(1,none),(4,some 1),(8,none),(105,none),(106,none)]
 | 33=>[(1,none),(4,some 1),(8,none),(105,none),(106,none)]
 | 34=>[(4,some 1),(5,none)]
 | _=>[]
def kq43 (r:Nat):List (Nat×Option Nat):=match r with
 | 0=>kpn [0,1]
 | 1=>kpn [0,1,10]
 | 2=>[(4,none)]
 | 3=>kpn [0,1,5]
 | 4=>kpn [0,1,5,14]
 | 5=>kpn [0,1,5]
 | 6=>kpn [0,1,5,25]
 | 7=>[(4,none)]
 | 8=>[(4,none)]
 | _=>[]
def kq44 (r:Nat):List (Nat×Option Nat):=match r with
 | 0=>kpn [0,1,4]
 | 1=>[(4,none)]
 | _=>[]
def kq45 (r:Nat):List (Nat×Option Nat):=match r with
 | 0=>kpn [0,1]
 | 1=>kpn [0,1,10]
 | 2=>[(4,none)]
 | 3=>kpn [0,1,5]
 | 4=>kpn [0,1,5,14]
 | 5=>kpn [0,1,5]
 | 6=>kpn [0,1,5,25]
 | 7=>[(4,none)]
 | 8=>[(4,none)]
 | _=>[]
def kq59 (r:Nat):List (Nat×Option Nat):=match r with
 | 0=>kpn [1,2,4]
 | 1=>kpn [1,2,4,6]
 | 2=>kpn [4,5]
 | 3=>kpn [1,2,4,18]
 | 4=>kpn [4,5]
 | 5=>kpn [2,4,5]
 | 6=>kpn [4,5]
 | _=>[]
def kq60 (r:Nat):List (Nat×Option Nat):=match r with
 | 0=>kpn [1,2]
 | 1=>[(4,none)]
 | _=>[]
def kq61 (r:Nat):List (Nat×Option Nat):=match r with
 | 0=>kpn [1,2,3,4,5]
 | 1=>kpn [1,2,3,4,5,11,12]
 | 2=>kpn [2,3,4,5,11,12,16,17,18]
 | 3=>kpn [2,3,4,5,11,12,16,17,18,19]
 | 4=>kpn [2,3,4,5,11,12,14,16,17,18]
 | 5=>kpn [2,3,4,5,11,12,14,15,16,17,18]
 | 6=>kpn [2,3,4,5,11,12,14,15,16,17,18,28]
 | 7=>kpn [2,3,4,5,11,12,15,16,17,18]
 | 8=>kpn [2,3,4,5,11,12,15,16,17,18]
 | 9=>kpn [2,3,4,5,11,12,16,17,18]
 | 10=>kpn [2,3,4,5,11,12,16,17,18]
 | 11=>[(10,none)]
 | _=>[]
def kq62 (r:Nat):List (Nat×Option Nat):=match r with
 | 0=>kpn [1,2]
 | 1=>[(3,none)]
 | _=>[]
def kq63 (r:Nat):List (Nat×Option Nat):=match r with
 | 0=>kpn [2,3]
 | 1=>[(4,none)]
 | _=>[]
def kq64 (r:Nat):List (Nat×Option Nat):=match r with
 | 0=>[(1,none)]
 | 1=>[(2,none)]
 | _=>[]
def kq65 (r:Nat):List (Nat×Option Nat):=match r with
 | 0=>[(1,none)]
 | 1=>[(2,none)]
 | _=>[]
def QKC (r:Nat):List (Nat×Option Nat):=match r with
 | 0=>kpn [1,2,4]
 | 1=>kpn [1,2,4,5]
 | 2=>kpn [1,2,4,5,13]
 | 3=>kpn [4,5]
 | 4=>kpn [1,2,4,22]
 | 5=>kpn [4,5]
 | 6=>kpn [1,2,4,5]
 | 7=>kpn [4,5]
 | _=>[]
def QJX (r:Nat):List (Nat×Option Nat):=match r with
 | 0=>kpn [2,3,4]
 | 1=>[(6,none)]
 | _=>[]
def QIK (r:Nat):List (Nat×Option Nat):=match r with
 | 0=>kpn [0,1]
 | 1=>[(5,none)]
 | 2=>[(3,none)]
 | _=>[]
def QMg (r:Nat):List (Nat×Option Nat):=match r with
 | 0=>[(1,none)]
 | 1=>[(2,none)]
 | _=>[]
def QKn (r:Nat):List (Nat×Option Nat):=match r with
 | 0=>[(1,none)]
 | 1=>[(2,none)]
 | _=>[]
def QKF (r:Nat):List (Nat×Option Nat):=match r with
 | 0=>[(1,none)]
 | 1=>[(2,none)]
 | _=>[]
def QJx (r:Nat):List (Nat×Option Nat):=match r with
 | 0=>[(0,none)]
 | 1=>kpn [0,3]
 | 2=>kpn [3,6,7,8]
 | 3=>kpn [3,6,7,8,9]
 | 4=>kpn [3,5,6,7,8]
 | 5=>kpn [3,5,6,7,8,14]
 | 6=>[(2,none)]
 | 7=>kpn [3,6,7,8]
 | 8=>[(2,none)]
 | _=>[]
def QMc (r:Nat):List (Nat×Option Nat):=match r with
 | 0=>kpn [0,1]
 | 1=>kpn [0,1,5]
 | 2=>kpn [0,1,5,6]
 | 3=>kpn [0,1,6,11]
 | 4=>[(12,none)]
 | 5=>[(4,none)]
 | 6=>[(4,none)]
 | 7=>kpn [0,1,13]
 | 8=>[(4,none)]
 | 9=>kpn [0,1,16]
 | 10=>[(4,none)]
 | 11=>[(19,none)]
 | 12=>[(4,none)]
 | 13=>[(4,none)]
 | _=>[]
def QK7 (r:Nat):List (Nat×Option Nat):=match r with
 | 0=>kpn [0,1]
 | 1=>kpn [1,8,9,10]
 | 2=>kpn [1,8,9,10,11]
 | 3=>kpn [1,6,7,8,9,10]
 | 4=>kpn [1,5,6,8,9,10]
 | 5=>kpn [1,5,6,8,9,10,20]
 | 6=>kpn [4,5]
 | 7=>kpn [1,8,9,10]
 | 8=>kpn [4,5]
 | _=>[]
def QJs (r:Nat):List (Nat×Option Nat):=match r with
 | 0=>[(3,none)]
 | 1=>kpn [3,5]
 | 2=>[(4,none)]
 | 3=>[(20,none)]
 | 4=>[(4,none)]
 | 5=>[(4,none)]
 | _=>[]
def QJy (r:Nat):List (Nat×Option Nat):=match r with
 | 0=>kpn [2,3]
 | 1=>[(4,none)]
 | _=>[]
def QKS (r:Nat):List (Nat×Option Nat):=match r with
 | 0=>kpn [0,1]
 | 1=>[(4,none)]
 | _=>[]
def QLb (r:Nat):List (Nat×Option Nat):=match r with
 | 0=>[(1,none)]
 | 1=>kpn [1,5]
 | 2=>kpn [2,3,4]
 | 3=>kpn [1,10]
 | 4=>kpn [2,3,4]
 | 5=>kpn [3,4]
 | 6=>kpn [3,4,24]
 | 7=>kpn [2,3,4]
 | 8=>kpn [2,3,4]
 | _=>[]
def QJq (r:Nat):List (Nat×Option Nat):=match r with
 | 0=>kpn [0,1]
 | 1=>kpn [1,8,9,10]
 | 2=>kpn [1,8,9,10,11]
 | 3=>kpn [1,6,7,8,9,10]
 | 4=>kpn [1,5,6,8,9,10]
 | 5=>kpn [1,5,6,8,9,10,20]
 | 6=>kpn [4,5]
 | 7=>kpn [1,8,9,10]
 | 8=>kpn [4,5]
 | _=>[]
def QJp (r:Nat):List (Nat×Option Nat):=match r with
 | 0=>[(1,none)]
 | 1=>[(11,none)]
 | 2=>[(4,none)]
 | 3=>[(4,none)]
 | _=>[]
def QJL (r:Nat):List (Nat×Option Nat):=match r with
 | 0=>kpn [0,1,2]
 | 1=>[(4,none)]
 | _=>[]
def QJn (r:Nat):List (Nat×Option Nat):=match r with
 | 0=>[(0,none)]
 | 1=>[(2,none)]
 | _=>[]
def QIC (r:Nat):List (Nat×Option Nat):=match r with
 | 0=>kpn [0,1]
 | 1=>kpn [0,1,7,8]
 | 2=>kpn [0,1,7,8,9]
 | 3=>kpn [0,1,5,7,8]
 | 4=>kpn [0,1,5,7,8,16]
 | 5=>[(4,none)]
 | 6=>kpn [0,1,7,8]
 | 7=>[(4,none)]
 | _=>[]
def QIt (r:Nat):List (Nat×Option Nat):=match r with
 | 0=>kpn [0,1]
 | 1=>kpn [1,8,9,10]
 | 2=>kpn [1,8,9,10,11]
 | 3=>kpn [1,6,7,8,9,10]
 | 4=>kpn [1,5,6,8,9,10]
 | 5=>kpn [1,5,6,8,9,10,20]
 | 6=>kpn [4,5]
 | 7=>kpn [1,8,9,10]
 | 8=>kpn [4,5]
 | _=>[]
def QMR (r:Nat):List (Nat×Option Nat):=match r with
 | 0=>kpn [0,2,4]
 | 1=>kpn [0,2,4,6]
 | 2=>[(5,none)]
 | 3=>kpn [4,11]
 | 4=>[(5,none)]
 | 5=>kpn [4,18]
 | 6=>[(5,none)]
 | 7=>[(29,none)]
 | 8=>[(5,none)]
 | 9=>[(5,none)]
 | _=>[]
def QLe (r:Nat):List (Nat×Option Nat):=match r with
 | 0=>kpn [0,1]
 | 1=>[(4,none)]
 | _=>[]
def QKA (r:Nat):List (Nat×Option Nat):=match r with
 | 0=>kpn [1,2]
 | 1=>[(3,none)]
 | _=>[]
def QLW (r:Nat):List (Nat×Option Nat):=match r with
 | 0=>kpn [0,1]
 | 1=>kpn [0,1,7,8]
 | 2=>kpn [0,1,7,8,9]
 | 3=>kpn [0,1,5,7,8]
 | 4=>kpn [0,1,5,7,8,16]
 | 5=>[(4,none)]
 | 6=>kpn [0,1,7,8]
 | 7=>[(4,none)]
 | _=>[]
noncomputable def tabA:List (Nat×FnI):=[(8,{ fn:=Tryz.f8,kp:=kq8}),
 (13,{ fn:=Tryz.f13,kp:=kq13}),
 (34,{ fn:=Tryz.f34,kp:=kq34,kb:=[(4,0,2)]}),
 (35,{ fn:=Tryz.f35,kp:=kq35}),
 (36,{ fn:=Tryz.f36,kp:=kq36}),
 (37,{ fn:=Tryz.f37,kp:=kq37}),
 (38,{ fn:=Tryz.f38,kp:=kq38,kb:=[(4,0,1)]}),
 (39,{ fn:=Tryz.f39,kp:=kq39}),
 (40,{ fn:=Tryz.f40,kp:=kq40}),
 (41,{ fn:=Tryz.f41,kp:=kq41}),
 (42,{ fn:=Tryz.f42,kp:=kq42}),
 (43,{ fn:=Tryz.f43,kp:=kq43}),
 (44,{ fn:=Tryz.f44,kp:=kq44}),
 (45,{ fn:=Tryz.f45,kp:=kq45}),
 (59,{ fn:=Tryz.f59,kp:=kq59}),
 (60,{ fn:=Tryz.f60,kp:=kq60}),
 (61,{ fn:=Tryz.f61,kp:=kq61}),
 (62,{ fn:=Tryz.f62,kp:=kq62}),
 (63,{ fn:=Tryz.f63,kp:=kq63}),
 (64,{ fn:=Tryz.f64,kp:=kq64}),
 (65,{ fn:=Tryz.f65,kp:=kq65}),
 (105,{ fn:=Tryz.f105,kp:=QKC}),
 (108,{ fn:=Tryz.f108,kp:=QJX}),
 (109,{ fn:=Tryz.f109,kp:=QIK}),
 (111,{ fn:=Tryz.f111,kp:=QMg}),
 (112,{ fn:=Tryz.f112,kp:=QKn}),
 (113,{ fn:=Tryz.f113,kp:=QKF}),
 (114,{ fn:=Tryz.f114,kp:=QJx}),
 (115,{ fn:=Tryz.f115,kp:=QMc}),
 (143,{ fn:=Tryz.f143,kp:=QK7}),
 (144,{ fn:=Tryz.f144,kp:=QJs}),
 (145,{ fn:=Tryz.f145,kp:=QJy}),
 (179,{ fn:=Tryz.f179,kp:=QKS}),
 (184,{ fn:=Tryz.f184,kp:=QLb}),
 (185,{ fn:=Tryz.f185,kp:=QJq}),
 (186,{ fn:=Tryz.f186,kp:=QJp}),
 (189,{ fn:=Tryz.f189,kp:=QJL}),
 (190,{ fn:=Tryz.f190,kp:=QJn}),
 (193,{ fn:=Tryz.f193,kp:=QIC}),
 (228,{ fn:=Tryz.f228,kp:=QIt}),
 (229,{ fn:=Tryz.f229,kp:=QMR}),
 (230,{ fn:=Tryz.f230,kp:=QLe}),
 (231,{ fn:=Tryz.f231,kp:=QKA}),
 (257,{ fn:=Tryz.f257,kp:=QLW})]
theorem QAh:FnI.Ok Tryz.prog 8 { fn:=Tryz.f8,kp:=kq8} :=⟨Tryz.func8,rfl,by kernel_rfl,by kernel_rfl,fun _ _=>by kernel_rfl,by decide⟩
theorem Qyo:FnI.Ok Tryz.prog 13 { fn:=Tryz.f13,kp:=kq13} :=⟨Tryz.func13,rfl,by kernel_rfl,by kernel_rfl,fun _ _=>by kernel_rfl,by decide⟩
theorem Qwa:FnI.Ok Tryz.prog 34 { fn:=Tryz.f34,kp:=kq34,kb:=[(4,0,2)]} :=⟨Tryz.func34,rfl,by kernel_rfl,by kernel_rfl,fun _ _=>by kernel_rfl,by decide⟩
theorem Qzj:FnI.Ok Tryz.prog 35 { fn:=Tryz.f35,kp:=kq35} :=⟨Tryz.func35,rfl,by kernel_rfl,by kernel_rfl,fun _ _=>by kernel_rfl,by decide⟩
theorem Qvu:FnI.Ok Tryz.prog 36 { fn:=Tryz.f36,kp:=kq36} :=⟨Tryz.func36,rfl,by kernel_rfl,by kernel_rfl,fun _ _=>by kernel_rfl,by decide⟩
theorem Qvl:FnI.Ok Tryz.prog 37 { fn:=Tryz.f37,kp:=kq37} :=⟨Tryz.func37,rfl,by kernel_rfl,by kernel_rfl,fun _ _=>by kernel_rfl,by decide⟩
theorem QwA:FnI.Ok Tryz.prog 38 { fn:=Tryz.f38,kp:=kq38,kb:=[(4,0,1)]} :=⟨Tryz.func38,rfl,by kernel_rfl,by kernel_rfl,fun _ _=>by kernel_rfl,by decide⟩
theorem Qw2:FnI.Ok Tryz.prog 39 { fn:=Tryz.f39,kp:=kq39} :=⟨Tryz.func39,rfl,by kernel_rfl,by kernel_rfl,fun _ _=>by kernel_rfl,by decide⟩
theorem Qx7:FnI.Ok Tryz.prog 40 { fn:=Tryz.f40,kp:=kq40} :=⟨Tryz.func40,rfl,by kernel_rfl,by kernel_rfl,fun _ _=>by kernel_rfl,by decide⟩
theorem Qyt:FnI.Ok Tryz.prog 41 { fn:=Tryz.f41,kp:=kq41} :=⟨Tryz.func41,rfl,by kernel_rfl,by kernel_rfl,fun _ _=>by kernel_rfl,by decide⟩
theorem QvW:FnI.Ok Tryz.prog 42 { fn:=Tryz.f42,kp:=kq42} :=⟨Tryz.func42,rfl,by kernel_rfl,by kernel_rfl,fun _ _=>by kernel_rfl,by decide⟩
theorem QwF:FnI.Ok Tryz.prog 43 { fn:=Tryz.f43,kp:=kq43} :=⟨Tryz.func43,rfl,by kernel_rfl,by kernel_rfl,fun _ _=>by kernel_rfl,by decide⟩
theorem Qy8:FnI.Ok Tryz.prog 44 { fn:=Tryz.f44,kp:=kq44} :=⟨Tryz.func44,rfl,by kernel_rfl,by kernel_rfl,fun _ _=>by kernel_rfl,by decide⟩
theorem QyN:FnI.Ok Tryz.prog 45 { fn:=Tryz.f45,kp:=kq45} :=⟨Tryz.func45,rfl,by kernel_rfl,by kernel_rfl,fun _ _=>by kernel_rfl,by decide⟩
theorem Qxd:FnI.Ok Tryz.prog 59 { fn:=Tryz.f59,kp:=kq59} :=⟨Tryz.func59,rfl,by kernel_rfl,by kernel_rfl,fun _ _=>by kernel_rfl,by decide⟩
theorem Qzu:FnI.Ok Tryz.prog 60 { fn:=Tryz.f60,kp:=kq60} :=⟨Tryz.func60,rfl,by kernel_rfl,by kernel_rfl,fun _ _=>by kernel_rfl,by decide⟩
theorem Qxt:FnI.Ok Tryz.prog 61 { fn:=Tryz.f61,kp:=kq61} :=⟨Tryz.func61,rfl,by kernel_rfl,by kernel_rfl,fun _ _=>by kernel_rfl,by decide⟩
theorem Qxq:FnI.Ok Tryz.prog 62 { fn:=Tryz.f62,kp:=kq62} :=⟨Tryz.func62,rfl,by kernel_rfl,by kernel_rfl,fun _ _=>by kernel_rfl,by decide⟩
theorem QxV:FnI.Ok Tryz.prog 63 { fn:=Tryz.f63,kp:=kq63} :=⟨Tryz.func63,rfl,by kernel_rfl,by kernel_rfl,fun _ _=>by kernel_rfl,by decide⟩
theorem Qzc:FnI.Ok Tryz.prog 64 { fn:=Tryz.f64,kp:=kq64} :=⟨Tryz.func64,rfl,by kernel_rfl,by kernel_rfl,fun _ _=>by kernel_rfl,by decide⟩
theorem QxT:FnI.Ok Tryz.prog 65 { fn:=Tryz.f65,kp:=kq65} :=⟨Tryz.func65,rfl,by kernel_rfl,by kernel_rfl,fun _ _=>by kernel_rfl,by decide⟩
theorem Qun:FnI.Ok Tryz.prog 105 { fn:=Tryz.f105,kp:=QKC} :=⟨Tryz.func105,rfl,by kernel_rfl,by kernel_rfl,fun _ _=>by kernel_rfl,by decide⟩
theorem Qt3:FnI.Ok Tryz.prog 108 { fn:=Tryz.f108,kp:=QJX} :=⟨Tryz.func108,rfl,by kernel_rfl,by kernel_rfl,fun _ _=>by kernel_rfl,by decide⟩
theorem Quh:FnI.Ok Tryz.prog 109 { fn:=Tryz.f109,kp:=QIK} :=⟨Tryz.func109,rfl,by kernel_rfl,by kernel_rfl,fun _ _=>by kernel_rfl,by decide⟩
theorem Qt4:FnI.Ok Tryz.prog 111 { fn:=Tryz.f111,kp:=QMg} :=⟨Tryz.func111,rfl,by kernel_rfl,by kernel_rfl,fun _ _=>by kernel_rfl,by decide⟩
theorem QuF:FnI.Ok Tryz.prog 112 { fn:=Tryz.f112,kp:=QKn} :=⟨Tryz.func112,rfl,by kernel_rfl,by kernel_rfl,fun _ _=>by kernel_rfl,by decide⟩
theorem QtM:FnI.Ok Tryz.prog 113 { fn:=Tryz.f113,kp:=QKF} :=⟨Tryz.func113,rfl,by kernel_rfl,by kernel_rfl,fun _ _=>by kernel_rfl,by decide⟩
theorem Quo:FnI.Ok Tryz.prog 114 { fn:=Tryz.f114,kp:=QJx} :=⟨Tryz.func114,rfl,by kernel_rfl,by kernel_rfl,fun _ _=>by kernel_rfl,by decide⟩
theorem Quw:FnI.Ok Tryz.prog 115 { fn:=Tryz.f115,kp:=QMc} :=⟨Tryz.func115,rfl,by kernel_rfl,by kernel_rfl,fun _ _=>by kernel_rfl,by decide⟩
theorem QtH:FnI.Ok Tryz.prog 143 { fn:=Tryz.f143,kp:=QK7} :=⟨Tryz.func143,rfl,by kernel_rfl,by kernel_rfl,fun _ _=>by kernel_rfl,by decide⟩
theorem Qu5:FnI.Ok Tryz.prog 144 { fn:=Tryz.f144,kp:=QJs} :=⟨Tryz.func144,rfl,by kernel_rfl,by kernel_rfl,fun _ _=>by kernel_rfl,by decide⟩
theorem Qu4:FnI.Ok Tryz.prog 145 { fn:=Tryz.f145,kp:=QJy} :=⟨Tryz.func145,rfl,by kernel_rfl,by kernel_rfl,fun _ _=>by kernel_rfl,by decide⟩
theorem Qu7:FnI.Ok Tryz.prog 179 { fn:=Tryz.f179,kp:=QKS} :=⟨Tryz.func179,rfl,by kernel_rfl,by kernel_rfl,fun _ _=>by kernel_rfl,by decide⟩
theorem QtD:FnI.Ok Tryz.prog 184 { fn:=Tryz.f184,kp:=QLb} :=⟨Tryz.func184,rfl,by kernel_rfl,by kernel_rfl,fun _ _=>by kernel_rfl,by decide⟩
theorem Qt6:FnI.Ok Tryz.prog 185 { fn:=Tryz.f185,kp:=QJq} :=⟨Tryz.func185,rfl,by kernel_rfl,by kernel_rfl,fun _ _=>by kernel_rfl,by decide⟩
theorem QuR:FnI.Ok Tryz.prog 186 { fn:=Tryz.f186,kp:=QJp} :=⟨Tryz.func186,rfl,by kernel_rfl,by kernel_rfl,fun _ _=>by kernel_rfl,by decide⟩
theorem QuG:FnI.Ok Tryz.prog 189 { fn:=Tryz.f189,kp:=QJL} :=⟨Tryz.func189,rfl,by kernel_rfl,by kernel_rfl,fun _ _=>by kernel_rfl,by decide⟩
theorem QtS:FnI.Ok Tryz.prog 190 { fn:=Tryz.f190,kp:=QJn} :=⟨Tryz.func190,rfl,by kernel_rfl,by kernel_rfl,fun _ _=>by kernel_rfl,by decide⟩
theorem QuM:FnI.Ok Tryz.prog 193 { fn:=Tryz.f193,kp:=QIC} :=⟨Tryz.func193,rfl,by kernel_rfl,by kernel_rfl,fun _ _=>by kernel_rfl,by decide⟩
theorem QuA:FnI.Ok Tryz.prog 228 { fn:=Tryz.f228,kp:=QIt} :=⟨Tryz.func228,rfl,by kernel_rfl,by kernel_rfl,fun _ _=>by kernel_rfl,by decide⟩
theorem Qtz:FnI.Ok Tryz.prog 229 { fn:=Tryz.f229,kp:=QMR} :=⟨Tryz.func229,rfl,by kernel_rfl,by kernel_rfl,fun _ _=>by kernel_rfl,by decide⟩
theorem Quq:FnI.Ok Tryz.prog 230 { fn:=Tryz.f230,kp:=QLe} :=⟨Tryz.func230,rfl,by kernel_rfl,by kernel_rfl,fun _ _=>by kernel_rfl,by decide⟩
theorem Qtt:FnI.Ok Tryz.prog 231 { fn:=Tryz.f231,kp:=QKA} :=⟨Tryz.func231,rfl,by kernel_rfl,by kernel_rfl,fun _ _=>by kernel_rfl,by decide⟩
theorem Qtu:FnI.Ok Tryz.prog 257 { fn:=Tryz.f257,kp:=QLW} :=⟨Tryz.func257,rfl,by kernel_rfl,by kernel_rfl,fun _ _=>by kernel_rfl,by decide⟩
theorem QD3:Qt9 Tryz.prog tabA:=QP QAh (QP Qyo (QP Qwa (QP Qzj (QP Qvu (QP Qvl (QP QwA (QP Qw2 (QP Qx7 (QP Qyt (QP QvW (QP QwF (QP Qy8 (QP QyN (QP Qxd (QP Qzu (QP Qxt (QP Qxq (QP QxV (QP Qzc (QP QxT (QP Qun (QP Qt3 (QP Quh (QP Qt4 (QP QuF (QP QtM (QP Quo (QP Quw (QP QtH (QP Qu5 (QP Qu4 (QP Qu7 (QP QtD (QP Qt6 (QP QuR (QP QuG (QP QtS (QP QuM (QP QuA (QP Qtz (QP Quq (QP Qtt (QP Qtu QFN)))))))))))))))))))))))))))))))))))))))))))
noncomputable def jaA:List (Nat×(List D→Option D)):=[(106,QMk),(107,Qx1),(110,QIq),(77,s89)]
theorem djaA:QaE Tryz.prog (Qaw jaA):=Qh (Qh (Qh (Qh Qs QDx ok89) QA9 QIH) QrF QC8) QAA QGy
noncomputable def cxA:Cx:=QGL jaA [] 0 (fun _=>[]) [] (fun _=>[]) (fun _=>0) [] [(188,QIb)]
theorem QMx:CxOk Tryz.prog cxA:=Qby djaA Qb6 Qbn Qy2 0 (fun _=>[]) [] (fun _=>[]) (fun _=>0)
end Go.Proofs.YticoemblgkemiaaGreatDoor
namespace Go.Proofs.YticoemblgkemiaaGreatDoor
open Go.RowKit
def sj8:List D→Option D:=sp0 QaW (some true)
set_option maxRecDepth 100000 in
theorem okj8:∀ds d,sj8 ds=some d→PureC Tryz.prog 8 ds d:=Qxu fun r hr=>by
 cases hr;exact QvV QMx QD3 12 (by kernel_rfl)
theorem QLd (xs:Array Value) (w:World):(callFunc 8 xs).run Tryz.prog w= .ok (.enter 8 xs) w:=by kernel_rfl
end Go.Proofs.YticoemblgkemiaaGreatDoor
