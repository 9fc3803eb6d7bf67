/-
  The law of two machines (ColourTwo): it returns true. Conditions: none.
-/
import Derived.Test.YtpkjmnfgpbliaaaZTwoLaw
import Derived.Test.YtpkjmnfgpbliaaaZRushLaw
import Derived.Test.YtpkjmnfgpbliaaaZLaw8
namespace Go.Proofs.Ytpkjmnfgpbliaaa
open Go.RowKit
set_option linter.unusedSimpArgs false
set_option linter.unusedVariables false

/-- The starts of two machines, which batches are on the first one, and an order. -/
structure Shr where
  a : Int
  b : Int
  f : Int
  ord : List Int
def rShr : Row Shr := ⟨4, fun x => [.v (.int .u8 x.a), .v (.int .u8 x.b), .v (.int .u8 x.f), .sl 1 (x.ord.map (rK .u8).enc)], fun d => match d with
  | [.v (.int .u8 a), .v (.int .u8 b), .v (.int .u8 f), y] => ((cList (rK .u8)).dec y).map fun o => ⟨a, b, f, o⟩
  | _ => none, fun x => by simp [cList_dec (rK .u8) x.ord 1 rfl], fun d x h => by
  split at h
  · simp only [Option.map_eq_some_iff] at h
    obtain ⟨o, ho, rfl⟩ := h
    exact limp_cons (DImp.refl _) (limp_cons (DImp.refl _) (limp_cons (DImp.refl _) (limp_cons ((cList (rK .u8)).ed _ _ ho) (LImp.refl _))))
  · cases h⟩
theorem rShr_enc (x : Shr) : rShr.enc x = [.v (.int .u8 x.a), .v (.int .u8 x.b), .v (.int .u8 x.f), .sl 1 (x.ord.map (rK .u8).enc)] := rfl
def shrOk (x : Shr) : Prop := (0 ≤ x.a ∧ x.a ≤ 255) ∧ (0 ≤ x.b ∧ x.b ≤ 255) ∧ (0 ≤ x.f ∧ x.f ≤ 255) ∧ byteOk x.ord
instance (x : Shr) : Decidable (shrOk x) := inferInstanceAs (Decidable (_ ∧ _))
/-- The stride of a list of numbers that may be nil. -/
def kd (l : List Int) : Nat := if l = [] then 0 else 1
theorem kd_ok (l : List Int) : l = [] ∨ kd l = 1 := by
  by_cases h : l = []
  · exact .inl h
  · exact .inr (if_neg h)
theorem kd_nil : kd [] = 0 := rfl
theorem kd_snoc (l : List Int) (x : Int) : kd (l ++ [x]) = 1 := if_neg (by simp)
theorem kd_dec (l : List Int) : (cList rInt).dec (.sl (kd l) (l.map rInt.enc)) = some l := by
  by_cases h : l = []
  · subst h; rfl
  · rw [show kd l = 1 from if_neg h]; exact rInt_decL l
theorem ints_app (l k : List Int) : (cList rInt).dec (.sl 1 (l.map rInt.enc ++ k.map rInt.enc)) = some (l ++ k) := by
  rw [← List.map_append]; exact rInt_decL _
theorem sideL_snoc (f : Nat) (is : Bool) (o : List Int) (j : Nat) (h : j < o.length) : sideL f is (o.take (j + 1)) = if f.testBit o[j].toNat == is then sideL f is (o.take j) ++ [o[j]] else sideL f is (o.take j) := by
  unfold sideL
  rw [List.take_succ_eq_append_getElem h, List.filter_append]
  by_cases hb : (f.testBit o[j].toNat == is) = true
  · rw [if_pos hb]; simp [hb]
  · rw [if_neg hb]; simp only [Bool.not_eq_true] at hb; simp [hb]
theorem bit_mod (F n : Nat) : ((F : Int) / 2 ^ n).tmod 2 = if F.testBit n then 1 else 0 := by
  have h : ((F : Int) / 2 ^ n) = ((F / 2 ^ n : Nat) : Int) := by push_cast; rfl
  rw [h, Int.tmod_eq_emod_of_nonneg (Int.natCast_nonneg _), Nat.testBit_eq_decide_div_mod_eq]
  have := Nat.mod_lt (F / 2 ^ n) (show 0 < 2 by omega)
  by_cases hb : F / 2 ^ n % 2 = 1
  · rw [if_pos (by simpa using hb)]; omega
  · rw [if_neg (by simpa using hb)]; omega
theorem rTwo_de (a b : Int) : rTwo.dec [DI a, DI b] = some (a, b) := rfl
theorem valid_open2 (s : Shp) (l : List Bat) : openErr s l [0, 0] = validE s l := by
  rw [openErr_eq]
  unfold validE colE
  by_cases h : (chk s).2.2 = 0
  · have hn := (good_of_chk h).n0
    have ho : outB 0 ((s.cols.length : Int) - 1) [0, 0] = false := (outB_two _ _ _ _).2 ⟨⟨by omega, by omega⟩, by omega, by omega⟩
    simp [h, ho]
  · simp [h]
def pt : List (Nat × (List D → Option D)) := (21, sAwake) :: (36, s36) :: (31, sTwo) :: (28, sBest) :: (41, s41) :: o2
theorem dept : DelOk Try.prog (delOf pt) := del_cons (del_cons (del_cons (del_cons (del_cons deo2 call41' ok41) call28' okBest) call31' okTwo) call36' ok36) call21c ok21
def kp11 (r : Nat) : List (Nat × Option Nat) := match r with
  | 0 => [(1, none), (3, none), (5, none)]
  | 1 => [(1, none), (3, none), (5, none), (7, none)]
  | 2 => [(1, none), (3, none), (5, none), (7, none), (32, none)]
  | 3 => [(7, none), (10, none)]
  | 4 => [(6, none)]
  | 5 => [(1, none), (3, none), (5, none), (11, none)]
  | 6 => [(1, none), (3, none), (5, none), (11, none), (12, none), (13, none), (14, none)]
  | 7 => [(1, none), (3, none), (5, none), (11, none), (12, none), (13, none), (14, none), (15, none)]
  | 8 => [(1, none), (3, none), (5, none), (11, none), (12, none), (13, none), (14, none), (15, none), (16, none)]
  | 9 => [(1, none), (3, none), (5, none), (11, none), (12, none), (13, none), (14, none), (15, none), (16, none), (17, none)]
  | 10 => [(1, none), (3, none), (5, none), (11, none), (12, none), (13, none), (14, none), (15, none), (16, none), (17, none), (80, none)]
  | 11 => [(1, none), (3, none), (5, none), (11, none), (12, none), (13, none), (14, none), (15, none), (16, none), (17, none)]
  | 12 => [(1, none), (3, none), (5, none), (11, none), (12, none), (13, none), (14, none), (15, none), (16, none), (17, none), (18, none)]
  | 13 => [(1, none), (3, none), (5, none), (11, none), (12, none), (13, none), (14, none), (15, none), (16, none), (17, none), (18, none), (19, some 1)]
  | 14 => [(1, none), (3, none), (5, none), (11, none), (12, none), (13, none), (14, none), (15, none), (16, none), (17, none)]
  | 15 => [(1, none), (3, none), (11, none), (12, none), (13, none), (14, none), (20, none), (21, none)]
  | 16 => [(1, none), (3, none), (11, none), (12, none), (13, none), (14, none), (20, none), (21, none), (123, none)]
  | 17 => [(6, none)]
  | 18 => [(1, none), (3, none), (11, none), (12, none), (13, none), (20, none), (21, none), (22, some 1)]
  | 19 => [(1, none), (3, none), (11, none), (12, none), (13, none), (20, none), (21, none), (152, none)]
  | 20 => [(6, none)]
  | 21 => [(1, none), (3, none), (11, none), (13, none), (20, none), (21, none), (23, none), (24, none)]
  | 22 => [(1, none), (3, none), (11, none), (13, none), (196, none)]
  | 23 => [(6, none)]
  | 24 => [(11, none), (13, none), (26, none), (27, none)]
  | 25 => [(6, none)]
  | _ => []
def s11 : List D → Option D := sp3 (cAgg rShp) (cList rBat) (cAgg rShr) cBool fun s l x => if namesOk s ∧ shrOk x then some true else none
set_option maxHeartbeats 16000000 in
theorem ok11 : ∀ ds d, s11 ds = some d → PureC Try.prog 11 ds d := ok_sp3 fun s l x r hr => by
  split at hr
  · rename_i hc
    cases hr
    obtain ⟨hs, hx⟩ := hc
    refine pure_of_call (mkCx_ok dept 223 kp11 []) Try.func11 rfl rfl (Nat.le_of_ble_eq_true rfl) (by kernel_rfl) ?_
    rw [Try.results11]
    obtain ⟨xa, xb, xf, x⟩ := x
    obtain ⟨⟨xa0, xa1⟩, ⟨xb0, xb1⟩, ⟨xf0, xf1⟩, hx⟩ := hx
    simp only at xa0 xa1 xb0 xb1 xf0 xf1 hx
    by_cases h1 : validE s l = 0
    · obtain ⟨h2, h7, hbe⟩ := valid_parts h1
      have hg := good_of_chk h2
      have hn0 := hg.n0
      have hne : ¬ (s.cols.length : Int) = 0 := by omega
      have hne' : ¬ s.cols = [] := fun h => by rw [h] at hn0; simp at hn0
      have hlen : s.cols.length < 1000000 := by have := hg.n1; omega
      have mA : ∀ y : Int, 0 ≤ y → ∃ B : Nat, y.tmod s.cols.length = B ∧ B < s.cols.length := fun y hy => by
        have e := Int.tmod_eq_emod_of_nonneg (a := y) (b := s.cols.length) hy
        have h0 := Int.emod_nonneg y hne
        have h1 := Int.emod_lt_of_pos y (show (0 : Int) < s.cols.length by omega)
        exact ⟨(y.tmod s.cols.length).toNat, by rw [Int.toNat_of_nonneg]; omega, by omega⟩
      obtain ⟨A, hAe, hA⟩ := mA xa xa0
      obtain ⟨B, hBe, hB⟩ := mA xb xb0
      obtain ⟨F, rfl⟩ : ∃ F : Nat, xf = F := ⟨xf.toNat, by omega⟩
      have wa := wrap_small xa (by omega) (by omega)
      have wb := wrap_small xb (by omega) (by omega)
      have wf := wrap_small (F : Int) (by omega) (by omega)
      have hperm : (anyO x l.length).Perm (nums l.length) := anyO_perm x l.length
      have hl1000 : (l.length : Int) ≤ 1000 := by omega
      have hl9 : (l.length : Int) < 1000000 := by omega
      have hol := anyO_len x l.length
      have hlaw := two_law h2 hbe (show (0 : Int) ≤ A by omega) (by omega) (show (0 : Int) ≤ B by omega) (by omega) h7 hperm F
      have s1 := side_perm (f := F) (is := true) hperm
      have s2 := side_perm (f := F) (is := false) hperm
      have hpo1 : putOk l (sideL F true (anyO x l.length)) := ⟨perm_outP s1, by have := perm_lenP s1; omega⟩
      have hpo2 : putOk l (sideL F false (anyO x l.length)) := ⟨perm_outP s2, by have := perm_lenP s2; omega⟩
      have hlo1 : losOk s A (putL l (sideL F true (anyO x l.length))) := ⟨h2, putL_okR (perm_outP s1) hbe, by omega, by omega, by rw [putL_len]; have := perm_lenP s1; omega⟩
      have hlo2 : losOk s B (putL l (sideL F false (anyO x l.length))) := ⟨h2, putL_okR (perm_outP s2) hbe, by omega, by omega, by rw [putL_len]; have := perm_lenP s2; omega⟩
      have hmem : ∀ j (hj : j < (anyO x l.length).length), ∃ N : Nat, (anyO x l.length)[j] = (N : Int) ∧ N < 7 := fun j hj => by
        have := nums_mem.1 (hperm.mem_iff.1 (List.getElem_mem hj))
        exact ⟨((anyO x l.length)[j]).toNat, by omega, by omega⟩
      have bd : ∀ (st : Int) (k : List Int), 0 ≤ st → st < s.cols.length → outB 0 ((l.length : Int) - 1) k = false → k.length ≤ 7 → -1 ≤ lossB s st (putL l k) ∧ lossB s st (putL l k) ≤ 210000 := by
        intro st k e1 e2 e3 e4
        rw [lossB_eq]
        cases hz : lossO s st (putL l k) with
        | none => exact ⟨by show (-1 : Int) ≤ -1; omega, by show (-1 : Int) ≤ 210000; omega⟩
        | some m =>
          have := lossO_bd s hg st ⟨e1, e2⟩ _ (fun y hy => by obtain ⟨i, hi, rfl⟩ := List.getElem_of_mem hy; exact okBat_all (putL_okR e3 hbe) i hi) hz
          rw [putL_len] at this
          show -1 ≤ m ∧ m ≤ 210000
          omega
      have bX := bd A (sideL F true (anyO x l.length)) (by omega) (by omega) (perm_outP s1) (by have := perm_lenP s1; omega)
      have bY := bd B (sideL F false (anyO x l.length)) (by omega) (by omega) (perm_outP s2) (by have := perm_lenP s2; omega)
      generalize hX : lossB s A (putL l (sideL F true (anyO x l.length))) = U at *
      generalize hY : lossB s B (putL l (sideL F false (anyO x l.length))) = V at *
      obtain ⟨tp, tl, te, ht⟩ : ∃ tp tl te, refTwo s ((A : Int), (B : Int)) l = (tp, tl, te) := ⟨_, _, _, rfl⟩
      obtain ⟨tp1, tp2⟩ := tp
      simp [kp11, pt, o2, s40, s41, sAwake, s36, sTwo, rTwo_de, rPair_enc, rShp_enc, rShp_dec, rShr_enc, rBat_k, rBat_decL, rK_decL8, hs, hx, h1, hne, hne', wa, wb, hAe, hBe, hlen, hl1000, ht]
      (generalize hLoopQ : Cx.loop _ _ _ = rLoopQ; apply loop_then hLoopQ (fun k => ⟨[(1, .d (.sl 2 (l.map rBat.enc))), (3, .loc 3 0), (5, .loc 5 0), (11, .loc 11 0), (12, .loc 12 0), (13, .d (DI tl)), (14, .d (DI te)), (15, .d (.sl 1 ((anyO x l.length).map rInt.enc))), (16, .loc 16 0), (17, .d (DI k))], [(3, [.d (.sl 4 (s.cols.map rCol.enc)), .d (DI s.keep.lo), .d (DI s.keep.hi), .d (DI s.rinse)]), (5, [.d (.v (.int .u8 xa)), .d (.v (.int .u8 xb)), .d (.v (.int .u8 F)), .d (.sl 1 (x.map (rK .u8).enc))]), (11, [.d (DI A), .d (DI B)]), (12, [.d (.sl 1 (tp1.map rInt.enc)), .d (.sl 1 (tp2.map rInt.enc))]), (16, [.d (.sl (kd (sideL F false ((anyO x l.length).take k))) ((sideL F false ((anyO x l.length).take k)).map rInt.enc)), .d (.sl (kd (sideL F true ((anyO x l.length).take k))) ((sideL F true ((anyO x l.length).take k)).map rInt.enc))])], []⟩) l.length rfl; rotate_left; (show _ < 281474976710656; omega); rfl; rotate_left; all_goals clear hLoopQ)
      · intro j hj
        have hj' : j < (anyO x l.length).length := by omega
        obtain ⟨N, hN, hN7⟩ := hmem j hj'
        have e1 := wrap_small ((j : Int) + 1) (by omega) (by omega)
        have hmn : min N 64 = N := by omega
        have hbits : IntKind.i64.bits = 64 := rfl
        have hb := bit_mod F N
        have k1 := sideL_snoc F true (anyO x l.length) j hj'
        have k2 := sideL_snoc F false (anyO x l.length) j hj'
        rw [hN, Int.toNat_natCast] at k1 k2
        have d1 := kd_ok (sideL F true ((anyO x l.length).take j))
        have d2 := kd_ok (sideL F false ((anyO x l.length).take j))
        have z1 : (sideL F true ((anyO x l.length).take j)).length ≤ 1000 := Nat.le_trans (List.length_filter_le _ _) (by simp; omega)
        have z2 : (sideL F false ((anyO x l.length).take j)).length ≤ 1000 := Nat.le_trans (List.length_filter_le _ _) (by simp; omega)
        have y1 : (sideL F true ((anyO x l.length).take j)).length ≤ 140737488355328 ∧ (sideL F true ((anyO x l.length).take j)).length * 8 ≤ 140737488355328 ∧ (sideL F true ((anyO x l.length).take j)).length + 1 ≤ 140737488355328 ∧ ((sideL F true ((anyO x l.length).take j)).length + 1) * 8 ≤ 140737488355328 := by omega
        have y2 : (sideL F false ((anyO x l.length).take j)).length ≤ 140737488355328 ∧ (sideL F false ((anyO x l.length).take j)).length * 8 ≤ 140737488355328 ∧ (sideL F false ((anyO x l.length).take j)).length + 1 ≤ 140737488355328 ∧ ((sideL F false ((anyO x l.length).take j)).length + 1) * 8 ≤ 140737488355328 := by omega
        have hjo : j < l.length := hj
        have hjl : ((j : Int) < (l.length : Int)) := by omega
        cases hF : F.testBit N
        · rw [hF] at hb k1 k2
          rw [if_neg (by simp)] at k1
          rw [if_pos (by simp)] at k2
          rw [k1, k2]
          generalize sideL F true ((anyO x l.length).take j) = L1 at *
          generalize sideL F false ((anyO x l.length).take j) = L2 at *
          simp [kp11, hj, hol, e1, hN, hmn, hbits, hb, wf, d1, d2, y1, y2, kd_snoc]
        · rw [hF] at hb k1 k2
          rw [if_pos (by simp)] at k1
          rw [if_neg (by simp)] at k2
          rw [k1, k2]
          generalize sideL F true ((anyO x l.length).take j) = L1 at *
          generalize sideL F false ((anyO x l.length).take j) = L2 at *
          simp [kp11, hj, hol, e1, hN, hmn, hbits, hb, wf, d1, d2, y1, y2, kd_snoc]
      · have hT : (anyO x l.length).take l.length = anyO x l.length := List.take_of_length_le (by omega)
        simp only [hT]
        have hX0 : lossB s A (putL l (sideL F true (anyO x l.length))) = U := hX
        rcases hlaw with ⟨t1, t2⟩ | ⟨p, q, m, n, t1, t2, ⟨t3, t3'⟩, ⟨t4, t4'⟩, t5, t6, ⟨t7, t7'⟩, ⟨t8, t8'⟩, t9, t10⟩
        · rw [ht] at t1
          cases t1
          by_cases hx0 : U < 0
          · simp [kp11, pt, o2, o1, l12, l11, l10, l9, l8, l7, l6, s40, s41, s42, s43, s44, sAwake, s36, sTwo, sBest, rTwo_de, rPair_enc, rShp_enc, rShp_dec, rShr_enc, rBat_k, rBat_decL, rK_decL8, kd_dec, ints_app, hs, hlen, hol, hl9, hpo1, hpo2, hlo1, hlo2, hX, hY, hx0]
          · have hy0 : V < 0 := by omega
            simp [kp11, pt, o2, o1, l12, l11, l10, l9, l8, l7, l6, s40, s41, s42, s43, s44, sAwake, s36, sTwo, sBest, rTwo_de, rPair_enc, rShp_enc, rShp_dec, rShr_enc, rBat_k, rBat_decL, rK_decL8, kd_dec, ints_app, hs, hlen, hol, hl9, hpo1, hpo2, hlo1, hlo2, hX, hY, hx0, hy0]
        · rw [ht] at t1
          cases t1
          have hor := perm_order t2
          have g1 : putOk l tp1 := ⟨t3, by omega⟩
          have g2 : putOk l tp2 := ⟨t3', by omega⟩
          have g3 : losOk s A (putL l tp1) := ⟨h2, putL_okR t3 hbe, by omega, by omega, by rw [putL_len]; omega⟩
          have g4 : losOk s B (putL l tp2) := ⟨h2, putL_okR t3' hbe, by omega, by omega, by rw [putL_len]; omega⟩
          have hmn := wrap_small (m + n) (by omega) (by omega)
          have hXY := wrap_small (U + V) (by omega) (by omega)
          have hm0 : ¬ m < 0 := by omega
          have hn0' : ¬ n < 0 := by omega
          have y1 : tp1.length ≤ 140737488355328 ∧ tp1.length * 8 ≤ 140737488355328 ∧ tp1.length + tp2.length ≤ 140737488355328 ∧ (tp1.length + tp2.length) * 8 ≤ 140737488355328 := by omega
          obtain ⟨bb, bl, be, hbest⟩ : ∃ bb bl be, refBest s (A : Int) l = (bb, bl, be) := ⟨_, _, _, rfl⟩
          rw [hbest] at t10
          have c1 : (¬ 0 ≤ U) ∨ (0 ≤ U ∧ ¬ 0 ≤ V) ∨ (0 ≤ U ∧ 0 ≤ V ∧ ¬ U + V < m + n) := by omega
          have c2 : (((A : Int) != B) = true) ∨ (((A : Int) != B) = false ∧ (be != 0) = true) ∨ (((A : Int) != B) = false ∧ (be != 0) = false ∧ m + n ≤ bl) := by
            by_cases e1 : (A : Int) = B
            · by_cases e2 : be = 0
              · exact .inr (.inr ⟨by simpa using e1, by simpa using e2, t10 e1 e2⟩)
              · exact .inr (.inl ⟨by simpa using e1, by simpa using e2⟩)
            · exact .inl (by simpa using e1)
          rcases c1 with c1 | ⟨c1, c1'⟩ | ⟨c1, c1', c1''⟩
          · rcases c2 with c2 | ⟨c2, c2'⟩ | ⟨c2, c2', c2''⟩
            · simp [kp11, pt, o2, o1, l12, l11, l10, l9, l8, l7, l6, s40, s41, s42, s43, s44, sAwake, s36, sTwo, sBest, rTwo_de, rPair_enc, rShp_enc, rShp_dec, rShr_enc, rBat_k, rBat_decL, rK_decL8, kd_dec, ints_app, hs, hlen, hol, hl9, hpo1, hpo2, hlo1, hlo2, hX, hY, hor, g1, g2, g3, g4, hmn, hXY, hm0, hn0', y1, hbest, t5, t6, c1, c2]
            · simp [kp11, pt, o2, o1, l12, l11, l10, l9, l8, l7, l6, s40, s41, s42, s43, s44, sAwake, s36, sTwo, sBest, rTwo_de, rPair_enc, rShp_enc, rShp_dec, rShr_enc, rBat_k, rBat_decL, rK_decL8, kd_dec, ints_app, hs, hlen, hol, hl9, hpo1, hpo2, hlo1, hlo2, hX, hY, hor, g1, g2, g3, g4, hmn, hXY, hm0, hn0', y1, hbest, t5, t6, c1, c2, c2']
            · simp [kp11, pt, o2, o1, l12, l11, l10, l9, l8, l7, l6, s40, s41, s42, s43, s44, sAwake, s36, sTwo, sBest, rTwo_de, rPair_enc, rShp_enc, rShp_dec, rShr_enc, rBat_k, rBat_decL, rK_decL8, kd_dec, ints_app, hs, hlen, hol, hl9, hpo1, hpo2, hlo1, hlo2, hX, hY, hor, g1, g2, g3, g4, hmn, hXY, hm0, hn0', y1, hbest, t5, t6, c1, c2, c2', c2'']
          · rcases c2 with c2 | ⟨c2, c2'⟩ | ⟨c2, c2', c2''⟩
            · simp [kp11, pt, o2, o1, l12, l11, l10, l9, l8, l7, l6, s40, s41, s42, s43, s44, sAwake, s36, sTwo, sBest, rTwo_de, rPair_enc, rShp_enc, rShp_dec, rShr_enc, rBat_k, rBat_decL, rK_decL8, kd_dec, ints_app, hs, hlen, hol, hl9, hpo1, hpo2, hlo1, hlo2, hX, hY, hor, g1, g2, g3, g4, hmn, hXY, hm0, hn0', y1, hbest, t5, t6, c1, c1', c2]
            · simp [kp11, pt, o2, o1, l12, l11, l10, l9, l8, l7, l6, s40, s41, s42, s43, s44, sAwake, s36, sTwo, sBest, rTwo_de, rPair_enc, rShp_enc, rShp_dec, rShr_enc, rBat_k, rBat_decL, rK_decL8, kd_dec, ints_app, hs, hlen, hol, hl9, hpo1, hpo2, hlo1, hlo2, hX, hY, hor, g1, g2, g3, g4, hmn, hXY, hm0, hn0', y1, hbest, t5, t6, c1, c1', c2, c2']
            · simp [kp11, pt, o2, o1, l12, l11, l10, l9, l8, l7, l6, s40, s41, s42, s43, s44, sAwake, s36, sTwo, sBest, rTwo_de, rPair_enc, rShp_enc, rShp_dec, rShr_enc, rBat_k, rBat_decL, rK_decL8, kd_dec, ints_app, hs, hlen, hol, hl9, hpo1, hpo2, hlo1, hlo2, hX, hY, hor, g1, g2, g3, g4, hmn, hXY, hm0, hn0', y1, hbest, t5, t6, c1, c1', c2, c2', c2'']
          · rcases c2 with c2 | ⟨c2, c2'⟩ | ⟨c2, c2', c2''⟩
            · simp [kp11, pt, o2, o1, l12, l11, l10, l9, l8, l7, l6, s40, s41, s42, s43, s44, sAwake, s36, sTwo, sBest, rTwo_de, rPair_enc, rShp_enc, rShp_dec, rShr_enc, rBat_k, rBat_decL, rK_decL8, kd_dec, ints_app, hs, hlen, hol, hl9, hpo1, hpo2, hlo1, hlo2, hX, hY, hor, g1, g2, g3, g4, hmn, hXY, hm0, hn0', y1, hbest, t5, t6, c1, c1', c1'', c2]
            · simp [kp11, pt, o2, o1, l12, l11, l10, l9, l8, l7, l6, s40, s41, s42, s43, s44, sAwake, s36, sTwo, sBest, rTwo_de, rPair_enc, rShp_enc, rShp_dec, rShr_enc, rBat_k, rBat_decL, rK_decL8, kd_dec, ints_app, hs, hlen, hol, hl9, hpo1, hpo2, hlo1, hlo2, hX, hY, hor, g1, g2, g3, g4, hmn, hXY, hm0, hn0', y1, hbest, t5, t6, c1, c1', c1'', c2, c2']
            · simp [kp11, pt, o2, o1, l12, l11, l10, l9, l8, l7, l6, s40, s41, s42, s43, s44, sAwake, s36, sTwo, sBest, rTwo_de, rPair_enc, rShp_enc, rShp_dec, rShr_enc, rBat_k, rBat_decL, rK_decL8, kd_dec, ints_app, hs, hlen, hol, hl9, hpo1, hpo2, hlo1, hlo2, hX, hY, hor, g1, g2, g3, g4, hmn, hXY, hm0, hn0', y1, hbest, t5, t6, c1, c1', c1'', c2, c2', c2'']
    · have h1' : (validE s l == 0) = false := by simpa using h1
      have h1'' : (validE s l != 0) = true := by simpa using h1
      have hr1 : refTwo s (0, 0) l = (([], []), 0, validE s l) := by
        unfold refTwo
        dsimp only
        rw [valid_open2, if_pos h1]
      simp [kp11, pt, sAwake, s36, sTwo, rTwo_de, rPair_enc, rShp_enc, rShp_dec, rShr_enc, rBat_k, rBat_decL, hs, h1, h1', h1'', hr1]
  · cases hr
end Go.Proofs.Ytpkjmnfgpbliaaa
