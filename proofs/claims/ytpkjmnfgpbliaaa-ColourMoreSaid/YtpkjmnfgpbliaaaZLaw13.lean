/-
  The law of less that stays (ColourMore): it returns true. Conditions: none.
-/
import Derived.Test.YtpkjmnfgpbliaaaZMoreLaw
namespace Go.Proofs.Ytpkjmnfgpbliaaa
open Go.RowKit
set_option linter.unusedSimpArgs false
set_option linter.unusedVariables false

/-- Six numbers of 16 bits. -/
structure Six where
  a : Int
  b : Int
  c : Int
  d : Int
  e : Int
  f : Int
def DH (n : Int) : D := .v (.int .u16 n)
def rSix : Row Six := ⟨6, fun x => [.v (.int .u16 x.a), .v (.int .u16 x.b), .v (.int .u16 x.c), .v (.int .u16 x.d), .v (.int .u16 x.e), .v (.int .u16 x.f)], fun d => match d with
  | [.v (.int .u16 a), .v (.int .u16 b), .v (.int .u16 c), .v (.int .u16 e), .v (.int .u16 f), .v (.int .u16 g)] => some ⟨a, b, c, e, f, g⟩ | _ => none, fun _ => rfl, fun d x h => by
  split at h
  · cases h; exact LImp.refl _
  · cases h⟩
theorem rSix_enc (x : Six) : rSix.enc x = [.v (.int .u16 x.a), .v (.int .u16 x.b), .v (.int .u16 x.c), .v (.int .u16 x.d), .v (.int .u16 x.e), .v (.int .u16 x.f)] := rfl
def sixOk (x : Six) : Prop := (0 ≤ x.a ∧ x.a ≤ 65535) ∧ (0 ≤ x.b ∧ x.b ≤ 65535) ∧ (0 ≤ x.c ∧ x.c ≤ 65535) ∧ (0 ≤ x.d ∧ x.d ≤ 65535) ∧ (0 ≤ x.e ∧ x.e ≤ 65535) ∧ 0 ≤ x.f ∧ x.f ≤ 65535
instance (x : Six) : Decidable (sixOk x) := inferInstanceAs (Decidable (_ ∧ _))
theorem rSpn_de (a b : Int) : rSpn.dec [DI a, DI b] = some ⟨a, b⟩ := rfl
def pm : List (Nat × (List D → Option D)) := (46, s46) :: (35, s35) :: pd
theorem depm : DelOk Try.prog (delOf pm) := del_cons (del_cons depd call35 ok35) call46 ok46
def kp13 (r : Nat) : List (Nat × Option Nat) := match r with
  | 0 => [(3, none), (4, none), (5, none)]
  | 1 => [(3, none), (4, none), (5, none), (25, none)]
  | 2 => [(6, none)]
  | 3 => [(3, none), (4, none), (5, none), (7, none)]
  | 4 => [(3, none), (4, none), (5, none), (7, none), (8, none), (9, none)]
  | 5 => [(3, none), (4, none), (5, none), (7, none), (8, none), (9, none), (10, none)]
  | 6 => [(3, none), (4, none), (5, none), (7, none), (8, none), (9, none), (10, none), (11, none)]
  | 7 => [(3, none), (4, none), (5, none), (7, none), (8, none), (9, none), (10, none)]
  | 8 => [(3, none), (4, none), (5, none), (7, none), (8, none), (9, none), (10, none), (12, none)]
  | 9 => [(3, none), (4, none), (5, none), (7, none), (8, none), (9, none), (10, none), (12, none), (64, none)]
  | 10 => [(3, none), (4, none), (5, none), (7, none), (8, none), (9, none), (10, none), (12, none)]
  | 11 => [(3, none), (4, none), (5, none), (7, none), (8, none), (9, none), (10, none), (12, none), (13, none)]
  | 12 => [(3, none), (4, none), (5, none), (7, none), (8, none), (9, none), (10, none), (12, none), (13, none), (14, none)]
  | 13 => [(3, none), (4, none), (5, none), (7, none), (8, none), (9, none), (10, none), (12, none), (13, none)]
  | 14 => [(3, none), (4, none), (5, none), (7, none), (8, none), (9, none), (10, none), (12, none), (13, none)]
  | 15 => [(3, none), (4, none), (5, none), (7, none), (8, none), (9, none), (10, none), (12, none), (13, none), (15, none)]
  | 16 => [(3, none), (4, none), (5, none), (7, none), (8, none), (9, none), (10, none), (12, none), (13, none), (15, none), (93, none)]
  | 17 => [(3, none), (4, none), (5, none), (7, none), (8, none), (9, none), (10, none), (12, none), (13, none), (15, none)]
  | 18 => [(3, none), (4, none), (5, none), (7, none), (8, none), (9, none), (10, none), (12, none), (13, none), (15, none)]
  | 19 => [(3, none), (4, none), (5, none), (7, none), (8, none), (9, none), (10, none), (12, none)]
  | 20 => [(3, none), (4, none), (5, none), (7, none), (8, none), (9, none), (10, none), (16, none)]
  | 21 => [(3, none), (4, none), (7, none), (8, none), (9, none), (10, none), (16, none)]
  | 22 => [(3, none), (4, none), (8, none), (9, none), (17, none), (18, none)]
  | 23 => [(8, none), (9, none), (17, none), (18, none), (19, none), (20, none)]
  | 24 => [(8, none), (9, none), (17, none), (18, none), (166, none)]
  | 25 => [(6, none)]
  | 26 => [(6, none)]
  | _ => []
def s13 : List D → Option D := sp3 (cAgg rShp) (cAgg rBat) (cAgg rSix) cBool fun s b x => if namesOk s ∧ sixOk x then some true else none
set_option maxHeartbeats 16000000 in
theorem ok13 : ∀ ds d, s13 ds = some d → PureC Try.prog 13 ds d := ok_sp3 fun s b x r hr => by
  split at hr
  · rename_i hc
    cases hr
    obtain ⟨hs, hx⟩ := hc
    refine pure_of_call (mkCx_ok depm 181 kp13 [(13, 3, 1), (10, 0, 4)]) Try.func13 rfl rfl (Nat.le_of_ble_eq_true rfl) (by kernel_rfl) ?_
    rw [Try.results13]
    obtain ⟨x0, x1, x2, x3, x4, x5⟩ := x
    obtain ⟨⟨g0, g0'⟩, ⟨g1, g1'⟩, ⟨g2, g2'⟩, ⟨g3, g3'⟩, ⟨g4, g4'⟩, _⟩ := hx
    simp only at g0 g0' g1 g1' g2 g2' g3 g3' g4 g4'
    by_cases h1 : validE s [b] = 0
    · have h2 : (chk s).2.2 = 0 := by
        unfold validE at h1
        by_cases h : (chk s).2.2 = 0
        · exact h
        · rw [if_neg h] at h1; exact h1
      have h3 : batErr s b = 0 := by
        unfold validE at h1
        rw [if_pos h2, batsE_one] at h1; exact h1
      have hg := good_of_chk h2
      have hn0 := hg.n0
      have hn1 := hg.n1
      have hk0 := hg.k0
      have hk1 := hg.k1
      have hk2 := hg.k2
      have hne : ¬ (s.cols.length : Int) = 0 := by omega
      have hne' : ¬ s.cols = [] := fun h => by rw [h] at hn0; simp at hn0
      have w1 := wrapS x0 g0 (by omega)
      have wx1 := wrapS x1 g1 (by omega)
      have wx2 := wrapS x2 g2 (by omega)
      have wx3 := wrapS x3 g3 (by omega)
      have wx4 := wrapS x4 g4 (by omega)
      obtain ⟨B, hBe⟩ : ∃ B : Nat, x0.tmod s.cols.length = B := ⟨(x0.tmod s.cols.length).toNat, by rw [Int.toNat_of_nonneg]; rw [Int.tmod_eq_emod_of_nonneg g0]; exact Int.emod_nonneg _ hne⟩
      have hB : B < s.cols.length := by
        have := Int.emod_lt_of_pos x0 (show (0 : Int) < s.cols.length by omega)
        rw [Int.tmod_eq_emod_of_nonneg g0] at hBe
        omega
      have hlaw := more_law h2 hB h3 x1 x2 g3 g4
      have hnm : namesOk (fineShp s x1 x2 x3) := fun c hc => by
        obtain ⟨c', hc', rfl⟩ := List.mem_map.1 hc
        exact hs c' hc'
      obtain ⟨Fn, hFn⟩ : ∃ Fn, Fn = fineShp s x1 x2 x3 := ⟨_, rfl⟩
      obtain ⟨hb, hhb⟩ : ∃ hb, hb = heavyB b x4 := ⟨_, rfl⟩
      have fl : Fn.cols.length = s.cols.length := by rw [hFn]; simp [fineShp]
      have fc : ∀ i (hi : i < s.cols.length), Fn.cols[i]'(by omega) = fineCol x2 x3 s.cols[i] := fun i hi => by simp [hFn, fineShp]
      obtain ⟨KH, hKH⟩ : ∃ KH, amongV ⟨0, s.keep.hi⟩ x1 = KH := ⟨_, rfl⟩
      obtain ⟨KL, hKL⟩ : ∃ KL, (if s.keep.lo < KH then s.keep.lo else KH) = KL := ⟨_, rfl⟩
      have fkh : Fn.keep.hi = KH := by rw [hFn]; exact hKH
      have fkl : Fn.keep.lo = KL := by rw [hFn, ← hKL, ← hKH]; rfl
      have fr : Fn.rinse = s.rinse := by rw [hFn]; rfl
      have hbc : hb.c = b.c := by rw [hhb]; rfl
      have hbg : hb.g = if b.g + x4 < 100000 then b.g + x4 else 100000 := by rw [hhb]; rfl
      have hdec : rShp.dec [.sl 4 (Fn.cols.map rCol.enc), DI KL, DI KH, DI s.rinse] = some Fn := by
        rw [← fkl, ← fkh, ← fr]; exact rShp_dec Fn
      have hbd : rBat.dec [DI b.c, DI (if b.g + x4 < 100000 then b.g + x4 else 100000)] = some hb := by
        rw [← hbg, ← hbc]; exact rBat_dec hb
      rw [← hFn] at hlaw hnm
      rw [← hhb] at hlaw
      obtain ⟨rn, re, hre⟩ : ∃ rn re, rinsesR s B b = (rn, re) := ⟨_, _, rfl⟩
      obtain ⟨qn, qe, hqe⟩ : ∃ qn qe, rinsesR Fn B hb = (qn, qe) := ⟨_, _, rfl⟩
      rw [hre, hqe] at hlaw
      obtain ⟨⟨hk0', hk1'⟩, hg0', hg1'⟩ := okBat_of h3
      have a1 : (0 ≤ s.keep.hi ∧ s.keep.hi ≤ 1000) ∧ 0 ≤ x1 ∧ x1 ≤ 1000000 := by omega
      have a2 : 0 ≤ x2 ∧ x2 ≤ 1000000 := by omega
      simp [kp13, pm, pd, pc, o2, o1, l12, l11, l10, l9, l8, l7, l6, l5, l4, l3, l2, l1, s35, s46, sAwake, s36, sRinses, rShp_enc, rShp_dec, rSix_enc, rCol_enc, rBat_enc, rBat_dec, bats1d, rSpn_enc, rSpn_de, DH, hs, h1, hne, hne', w1, wx1, hBe, hre, a1, hKH, hKL]
      (generalize hLoopQ : Cx.loop _ _ _ = rLoopQ; apply loop_then hLoopQ (fun k => ⟨[(3, .loc 3 0), (4, .loc 4 0), (5, .loc 5 0), (7, .d (DI B)), (8, .d (DI rn)), (9, .d (DI re)), (10, .loc 10 0), (12, .d (DI k))], [(3, [.d (.sl 4 (s.cols.map rCol.enc)), .d (DI s.keep.lo), .d (DI s.keep.hi), .d (DI s.rinse)]), (4, [.d (DI b.c), .d (DI b.g)]), (5, [.d (DH x0), .d (DH x1), .d (DH x2), .d (DH x3), .d (DH x4), .d (DH x5)]), (10, [.sl 4 ((Fn.cols.take k).map rCol.enc) (.tok 101000), .d (DI KL), .d (DI KH), .d (DI s.rinse)])], [101000]⟩) s.cols.length rfl; rotate_left; (show _ < 281474976710656; omega); rfl; rotate_left; all_goals clear hLoopQ)
      · intro i hi
        have hiF : i < Fn.cols.length := by omega
        have hst := hg.st i hi
        have hsh := hg.sh i hi
        rw [getD_at _ _ _ hi] at hst hsh
        have fi := fc i hi
        have fN : Fn.cols[i].name = s.cols[i].name := by rw [fi]; rfl
        obtain ⟨SH, hSH⟩ : ∃ SH, amongV ⟨0, s.cols[i].stay.hi⟩ x2 = SH := ⟨_, rfl⟩
        obtain ⟨SL, hSL⟩ : ∃ SL, (if s.cols[i].stay.lo < SH then s.cols[i].stay.lo else SH) = SL := ⟨_, rfl⟩
        have fH : Fn.cols[i].stay.hi = SH := by rw [fi]; exact hSH
        have fL : Fn.cols[i].stay.lo = SL := by rw [fi, ← hSL, ← hSH]; rfl
        obtain ⟨SW, hSW⟩ : ∃ SW, Fn.cols[i].shows = SW := ⟨_, rfl⟩
        have fSl : SW.length = s.cols.length := by rw [← hSW, fi]; simp [fineCol, hsh]
        have fSe : ∀ k (hk : k < s.cols.length), SW[k]'(by omega) = fineShow x3 (s.cols[i].shows[k]'(by omega)) := fun k hk => by subst hSW; simp [fi, fineCol]
        have fE : rCol.enc Fn.cols[i] = [DS s.cols[i].name, DI SL, DI SH, .sl 1 (SW.map rInt.enc)] := by rw [rCol_enc, fN, fL, fH, hSW]
        have wi := wrap_small ((i : Int) + 1) (by omega) (by omega)
        have b1 : i + 1 ≤ 140737488355328 := by omega
        have b2 : (i + 1) * 56 ≤ 140737488355328 := by omega
        have a3 : 0 ≤ s.cols[i].stay.hi ∧ s.cols[i].stay.hi ≤ 1000 := by omega
        have hT2 : Fn.cols.take (i + 1) = Fn.cols.take i ++ [Fn.cols[i]] := List.take_succ_eq_append_getElem hiF
        have hl : (Fn.cols.take i).length = i := by simp; omega
        simp only [hT2]
        generalize Fn.cols.take i = FT at *
        simp [kp13, pm, pd, pc, o2, o1, l12, l11, l10, l9, l8, l7, l6, l5, l4, l3, l2, l1, s35, s46, sAwake, s36, sRinses, rShp_enc, rShp_dec, rSix_enc, rCol_enc, rBat_enc, rBat_dec, bats1d, rSpn_enc, rSpn_de, DH, hs, hi, hiF, wx2, a3, a2, hSH, hSL]
        (generalize hLoopQ : Cx.loop _ _ _ = rLoopQ; apply loop_then hLoopQ (fun k => ⟨[(3, .loc 3 0), (4, .loc 4 0), (5, .loc 5 0), (7, .d (DI B)), (8, .d (DI rn)), (9, .d (DI re)), (10, .loc 10 0), (12, .d (DI i)), (13, .loc 13 0), (15, .d (DI k))], [(3, [.d (.sl 4 (s.cols.map rCol.enc)), .d (DI s.keep.lo), .d (DI s.keep.hi), .d (DI s.rinse)]), (4, [.d (DI b.c), .d (DI b.g)]), (5, [.d (DH x0), .d (DH x1), .d (DH x2), .d (DH x3), .d (DH x4), .d (DH x5)]), (10, [.sl 4 (FT.map rCol.enc) (.tok 101000), .d (DI KL), .d (DI KH), .d (DI s.rinse)]), (13, [.d (DS s.cols[i].name), .d (DI SL), .d (DI SH), .sl 1 ((SW.take k).map rInt.enc) (.tok 101303)])], [101303, 101000]⟩) s.cols.length rfl; rotate_left; (show _ < 281474976710656; omega); rfl; rotate_left; all_goals clear hLoopQ)
        · intro k hk
          have hkS : k < SW.length := by omega
          have hkc : k < s.cols[i].shows.length := by omega
          have fe := fSe k hk
          have hsv := hg.sv i k hi hk
          rw [getD_at _ _ _ hi, getD_at _ _ _ hkc] at hsv
          have wk := wrap_small ((k : Int) + 1) (by omega) (by omega)
          have wv := wrap_small (s.cols[i].shows[k] + x3) (by omega) (by omega)
          have c1 : k + 1 ≤ 140737488355328 := by omega
          have c2 : (k + 1) * 8 ≤ 140737488355328 := by omega
          have hT : SW.take (k + 1) = SW.take k ++ [SW[k]] := List.take_succ_eq_append_getElem hkS
          have hl : (SW.take k).length = k := by simp; omega
          rw [hT, fe]
          unfold fineShow
          generalize SW.take k = ST at *
          simp [kp13, pm, pd, pc, o2, o1, l12, l11, l10, l9, l8, l7, l6, l5, l4, l3, l2, l1, s35, s46, sAwake, s36, sRinses, rShp_enc, rShp_dec, rSix_enc, rCol_enc, rBat_enc, rBat_dec, bats1d, rSpn_enc, rSpn_de, DH, hs, hi, hiF, hk, hkc, wk, wx3, wv, c1, c2, hl]
        · have hT : SW.take s.cols.length = SW := List.take_of_length_le (by omega)
          rw [hT]
          simp [kp13, pm, pd, pc, o2, o1, l12, l11, l10, l9, l8, l7, l6, l5, l4, l3, l2, l1, s35, s46, sAwake, s36, sRinses, rShp_enc, rShp_dec, rSix_enc, rCol_enc, rBat_enc, rBat_dec, bats1d, rSpn_enc, rSpn_de, DH, hs, hi, hiF, hl, wi, b1, b2, fN, fL, fH, hSW]
      · have hT : Fn.cols.take s.cols.length = Fn.cols := List.take_of_length_le (by omega)
        rw [hT]
        obtain ⟨l1, l2⟩ := hlaw
        have wg := wrap_small (b.g + x4) (by omega) (by omega)
        have hbc' : ¬ b.c < 0 := by omega
        simp only at l2
        rcases l2 with ⟨rfl, rfl | rfl⟩ | ⟨rfl, rfl, l3⟩
        · simp [kp13, pm, pd, pc, o2, o1, l12, l11, l10, l9, l8, l7, l6, l5, l4, l3, l2, l1, s35, s46, sAwake, s36, sRinses, rShp_enc, rShp_dec, rSix_enc, rCol_enc, rBat_enc, rBat_dec, bats1d, rSpn_enc, rSpn_de, DH, hs, wx4, wg, hdec, hbd, hnm, hqe, l1]
        · simp [kp13, pm, pd, pc, o2, o1, l12, l11, l10, l9, l8, l7, l6, l5, l4, l3, l2, l1, s35, s46, sAwake, s36, sRinses, rShp_enc, rShp_dec, rSix_enc, rCol_enc, rBat_enc, rBat_dec, bats1d, rSpn_enc, rSpn_de, DH, hs, wx4, wg, hdec, hbd, hnm, hqe, l1]
        · simp [kp13, pm, pd, pc, o2, o1, l12, l11, l10, l9, l8, l7, l6, l5, l4, l3, l2, l1, s35, s46, sAwake, s36, sRinses, rShp_enc, rShp_dec, rSix_enc, rCol_enc, rBat_enc, rBat_dec, bats1d, rSpn_enc, rSpn_de, DH, hs, wx4, wg, hdec, hbd, hnm, hqe, l1, l3]
    · have h1' : (validE s [b] == 0) = false := by simpa using h1
      have h1'' : (validE s [b] != 0) = true := by simpa using h1
      simp [kp13, pm, pd, pc, o2, o1, l12, l11, l10, l9, l8, l7, l6, l5, l4, l3, l2, l1, s35, s46, sAwake, s36, sRinses, rShp_enc, rShp_dec, rSix_enc, rCol_enc, rBat_enc, rBat_dec, bats1d, rSpn_enc, rSpn_de, DH, hs, h1, h1', h1'']
  · cases hr
end Go.Proofs.Ytpkjmnfgpbliaaa
