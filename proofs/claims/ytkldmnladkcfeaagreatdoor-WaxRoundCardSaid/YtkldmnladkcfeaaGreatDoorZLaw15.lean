/-
  The law WaxRound: what is written is read. Conditions: the names are strings; what is drawn is of its type.
-/
import Derived.Test.YtkldmnladkcfeaaGreatDoorZLawT
namespace Go.Proofs.YtkldmnladkcfeaaGreatDoor
open Go.RowKit
set_option linter.unusedSimpArgs false
set_option linter.unusedVariables false
def kp15 (r : Nat) : List (Nat × Option Nat) := match r with
  | 0 => [(1, none), (2, none)]
  | 1 => [(1, none), (2, none), (5, none), (6, none)]
  | 2 => [(1, none), (2, none), (5, none), (16, none)]
  | 3 => [(1, none), (2, none), (5, none), (7, none), (8, none)]
  | 4 => [(1, none), (34, none)]
  | 5 => [(4, none)]
  | 6 => [(1, none), (6, none), (9, none)]
  | 7 => [(1, none), (9, none), (41, none)]
  | 8 => [(4, none)]
  | 9 => [(1, none), (5, none), (6, none)]
  | 10 => [(4, none)]
  | _ => []
def tb15 : List (Nat × (List D → Option D)) := (32, s32) :: (34, s34) :: (36, s36) :: (20, s20) :: []
theorem dtb15 : DelOk Tryz.prog (delOf tb15) := (del_cons (del_cons (del_cons (del_cons del_nil call20 ok20) call36 ok36) call34 ok34) call32 ok32)
theorem noT_enc : rTbl.dec [.sl 0 [], .sl 0 [], .v (.int .i64 0)] = some noT := rfl
theorem tblB_no : tblB noT noT = true := tblB_iff.2 rfl
theorem write_ok {x : Tbl} {s : ByteArray} (h : writeR x = (s, 0)) : okT x := by
  unfold writeR at h
  split at h
  · assumption
  · rename_i h1
    have : (chk x).2.2 = 0 := (Prod.mk.inj h).2
    exact absurd this h1
def s15 : List D → Option D := sp2 (cAgg rTbl) cStr cBool fun x s => if namesOk x then some true else none
set_option maxHeartbeats 8000000 in
theorem ok15 : ∀ ds d, s15 ds = some d → PureC Tryz.prog 15 ds d := ok_sp2 fun x s r hr => by
  split at hr
  · rename_i hn
    cases hr
    refine pure_of_call (mkCx_ok dtb15 63 kp15 []) Tryz.func15 rfl rfl (Nat.le_of_ble_eq_true rfl) (by kernel_rfl) ?_
    rw [Tryz.results15]
    have hlim := lim_read s
    have key : ∀ e : Int, True := fun _ => trivial
    by_cases hT : okT x
    · have hW : writeR x = (textV x, 0) := by unfold writeR; rw [if_pos hT]
      have hsz := text_le hT
      have hRd := read_text hT
      have hl := lim_ok hT
      have hz : ¬ (2000 : Int) < (textV x).size := by omega
      have hsame : tblB x x = true := tblB_iff.2 rfl
      rcases read_cases s with ⟨c1, c2⟩ | ⟨c1, c2⟩
      · have c3 := nePos c2
        generalize hRy : readR s = R at *
        obtain ⟨y, e⟩ := R
        simp only at c1 c2 c3 hlim
        subst c1
        simp [kp15, tb15, s32, s34, s36, s20, read_eq, rTbl_enc, rTbl_dec, noT_enc, tblB_no, hn, hlim, hRy, c2, c3, hW, hRd, hl, hz, hsame]
      · have hyo := write_ok c2
        have hyn := text_names hyo
        generalize hRy : readR s = R at *
        obtain ⟨y, e⟩ := R
        simp only at c1 c2 hlim hyn
        subst c1
        simp [kp15, tb15, s32, s34, s36, s20, read_eq, rTbl_enc, rTbl_dec, hn, hyn, hlim, hRy, c2, hW, hRd, hl, hz, hsame]
    · have he : ¬ (chk x).2.2 = 0 := hT
      have he' := eqNeg he
      have hW : writeR x = (⟨#[]⟩, (chk x).2.2) := by unfold writeR; rw [if_neg hT]
      rcases read_cases s with ⟨c1, c2⟩ | ⟨c1, c2⟩
      · have c3 := nePos c2
        generalize hRy : readR s = R at *
        obtain ⟨y, e⟩ := R
        simp only at c1 c2 c3 hlim
        subst c1
        simp [kp15, tb15, s32, s34, s36, s20, read_eq, rTbl_enc, rTbl_dec, noT_enc, tblB_no, hn, hlim, hRy, c2, c3, hW, he, he']
      · have hyo := write_ok c2
        have hyn := text_names hyo
        generalize hRy : readR s = R at *
        obtain ⟨y, e⟩ := R
        simp only at c1 c2 hlim hyn
        subst c1
        simp [kp15, tb15, s32, s34, s36, s20, read_eq, rTbl_enc, rTbl_dec, hn, hyn, hlim, hRy, c2, hW, he, he']
  · cases hr
end Go.Proofs.YtkldmnladkcfeaaGreatDoor
