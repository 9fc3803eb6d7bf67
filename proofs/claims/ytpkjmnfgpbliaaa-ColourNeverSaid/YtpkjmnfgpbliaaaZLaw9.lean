/-
  The law of what never shows (ColourNever): it returns true. Conditions: none.
-/
import Derived.Test.YtpkjmnfgpbliaaaZNeverLaw
import Derived.Test.YtpkjmnfgpbliaaaZLaw8
namespace Go.Proofs.Ytpkjmnfgpbliaaa
open Go.RowKit
set_option linter.unusedSimpArgs false
set_option linter.unusedVariables false

/-- An order, rinses, and a truth of each change. -/
structure Tri where
  ord : List Int
  rin : List Int
  truth : Sty
def rTri : Row Tri := ⟨8, fun x => [.sl 1 (x.ord.map (rK .u8).enc), .sl 1 (x.rin.map (rK .u8).enc), .v (.int .u8 x.truth.before), .v (.int .u16 x.truth.stay), .v (.int .u16 x.truth.k0), .v (.int .u16 x.truth.k1), .v (.int .u16 x.truth.k2), .v (.int .u8 x.truth.rinses)], fun d => match d with
  | [y, z, .v (.int .u8 a), .v (.int .u16 b), .v (.int .u16 c), .v (.int .u16 e), .v (.int .u16 f), .v (.int .u8 g)] => (match (cList (rK .u8)).dec y, (cList (rK .u8)).dec z with | some p, some q => some ⟨p, q, ⟨a, b, c, e, f, g⟩⟩ | _, _ => none)
  | _ => none, fun x => by simp only [cList_dec (rK .u8) _ 1 rfl], fun d x h => by
  split at h
  · split at h
    · rename_i p q h1 h2; cases h
      exact limp_cons ((cList (rK .u8)).ed _ _ h1) (limp_cons ((cList (rK .u8)).ed _ _ h2) (LImp.refl _))
    · cases h
  · cases h⟩
theorem rTri_enc (x : Tri) : rTri.enc x = [.sl 1 (x.ord.map (rK .u8).enc), .sl 1 (x.rin.map (rK .u8).enc), .v (.int .u8 x.truth.before), .v (.int .u16 x.truth.stay), .v (.int .u16 x.truth.k0), .v (.int .u16 x.truth.k1), .v (.int .u16 x.truth.k2), .v (.int .u8 x.truth.rinses)] := rfl
def triOk (x : Tri) : Prop := byteOk x.ord ∧ byteOk x.rin ∧ styOk x.truth
instance (x : Tri) : Decidable (triOk x) := inferInstanceAs (Decidable (_ ∧ _))
def pn : List (Nat × (List D → Option D)) := (37, s37) :: (38, s38) :: (19, sRinses) :: (24, sShows) :: pe
theorem depn : DelOk Try.prog (delOf pn) := del_cons (del_cons (del_cons (del_cons depe call24' okShows) call19 okRinses) call38' ok38) call37' ok37
def kp9 (r : Nat) : List (Nat × Option Nat) := match r with
  | 0 => [(1, none), (3, none), (5, none)]
  | 1 => [(1, none), (3, none), (5, none), (30, none)]
  | 2 => [(6, none)]
  | 3 => [(1, none), (3, none), (5, none), (7, none), (8, none)]
  | 4 => [(1, none), (3, none), (5, none), (7, none), (8, none), (9, some 1), (10, some 1)]
  | 5 => [(1, none), (3, none), (5, none), (7, none), (8, none), (9, some 1), (10, some 1), (11, none), (12, none), (13, none), (14, none)]
  | 6 => [(1, none), (3, none), (5, none), (7, none), (8, none), (9, some 1), (10, some 1), (11, none), (12, none), (13, none), (14, none), (15, none)]
  | 7 => [(1, none), (3, none), (5, none), (7, none), (8, none), (9, some 1), (10, some 1), (11, none), (12, none), (13, none), (14, none), (15, none), (48, none)]
  | 8 => [(1, none), (3, none), (5, none), (7, none), (8, none), (9, some 1), (10, some 1), (11, none), (12, none), (13, none), (14, none), (15, none)]
  | 9 => [(1, none), (3, none), (5, none), (7, none), (8, none), (9, some 1), (10, some 1), (11, none), (12, none), (13, none), (14, none), (15, none), (16, none)]
  | 10 => [(1, none), (3, none), (5, none), (7, none), (8, none), (9, some 1), (10, some 1), (11, none), (12, none), (13, none), (14, none), (15, none), (16, none), (17, none)]
  | 11 => [(1, none), (3, none), (5, none), (7, none), (8, none), (9, some 1), (10, some 1), (11, none), (12, none), (13, none), (14, none), (15, none), (16, none), (17, none)]
  | 12 => [(1, none), (3, none), (5, none), (7, none), (8, none), (9, some 1), (10, some 1), (11, none), (12, none), (13, none), (14, none), (15, none), (16, none), (17, none), (18, none), (19, none)]
  | 13 => [(1, none), (3, none), (5, none), (7, none), (8, none), (9, some 1), (10, some 1), (11, none), (12, none), (13, none), (14, none), (15, none), (16, none), (17, none), (18, none)]
  | 14 => [(1, none), (3, none), (5, none), (7, none), (8, none), (9, some 1), (10, some 1), (11, none), (12, none), (13, none), (14, none), (15, none), (16, none), (17, none)]
  | 15 => [(1, none), (3, none), (5, none), (7, none), (8, none), (9, some 1), (10, some 1), (11, none), (12, none), (13, none), (14, none), (15, none), (16, none), (17, none)]
  | 16 => [(1, none), (3, none), (5, none), (7, none), (8, none), (9, some 1), (10, some 1), (11, none), (12, none), (13, none), (14, none), (15, none), (16, none), (17, none), (20, none)]
  | 17 => [(1, none), (3, none), (5, none), (7, none), (8, none), (9, some 1), (10, some 1), (12, none), (13, none), (14, none), (15, none), (16, none), (119, none)]
  | 18 => [(1, none), (3, none), (5, none), (7, none), (8, none), (9, some 1), (10, some 1), (12, none), (13, none), (14, none), (15, none), (16, none)]
  | 19 => [(1, none), (3, none), (5, none), (7, none), (8, none), (9, some 1), (10, some 1), (11, none), (12, none), (13, none), (14, none), (15, none)]
  | 20 => [(1, none), (3, none), (7, none), (8, none), (10, some 1), (12, none), (13, none), (14, none), (21, none), (22, none)]
  | 21 => [(1, none), (3, none), (7, none), (8, none), (10, some 1), (12, none), (145, none)]
  | 22 => [(6, none)]
  | 23 => [(1, none), (3, none), (7, none), (8, none), (10, some 1), (12, none), (24, none)]
  | 24 => [(1, none), (3, none), (7, none), (8, none), (10, some 1), (12, none), (157, none)]
  | 25 => [(6, none)]
  | 26 => [(12, none), (25, none), (26, none)]
  | 27 => [(6, none)]
  | _ => []
def s9 : List D → Option D := sp3 (cAgg rShp) (cList rBat) (cAgg rTri) cBool fun s l x => if namesOk s ∧ triOk x then some true else none
set_option maxHeartbeats 16000000 in
theorem ok9 : ∀ ds d, s9 ds = some d → PureC Try.prog 9 ds d := ok_sp3 fun s l x r hr => by
  split at hr
  · rename_i hc
    cases hr
    obtain ⟨hs, hx⟩ := hc
    refine pure_of_call (mkCx_ok depn 180 kp9 []) Try.func9 rfl rfl (Nat.le_of_ble_eq_true rfl) (by kernel_rfl) ?_
    rw [Try.results9]
    obtain ⟨x, R, t⟩ := x
    obtain ⟨hx, hR, ht⟩ := hx
    simp only at hx hR ht
    by_cases h1 : validE s l = 0
    · obtain ⟨h2, h7, hbe⟩ := valid_parts h1
      have hg := good_of_chk h2
      have hn0 := hg.n0
      have hne : ¬ (s.cols.length : Int) = 0 := by omega
      have hne' : ¬ s.cols = [] := fun h => by rw [h] at hn0; simp at hn0
      have hlen : s.cols.length < 1000000 := by have := hg.n1; omega
      have htb := turn_bd hx 0
      obtain ⟨A, hAe⟩ : ∃ B : Nat, (turnV x 0).tmod s.cols.length = B := ⟨((turnV x 0).tmod s.cols.length).toNat, by rw [Int.toNat_of_nonneg]; rw [Int.tmod_eq_emod_of_nonneg htb.1]; exact Int.emod_nonneg _ hne⟩
      have hA : A < s.cols.length := by
        have := Int.emod_lt_of_pos (turnV x 0) (show (0 : Int) < s.cols.length by omega)
        rw [Int.tmod_eq_emod_of_nonneg htb.1] at hAe
        omega
      have hop : openErr s l [(A : Int)] = 0 := open_ok h2 hbe (by omega) (by omega) h7
      have hperm : (anyO x l.length).Perm (nums l.length) := anyO_perm x l.length
      have hst := perm_strange hperm
      have hask : askE s A l (anyO x l.length) = 0 := by unfold askE; rw [if_neg (by simpa using hop)]; exact hst
      have hol := anyO_len x l.length
      have hob := perm_out hperm
      have hP : (putL l (anyO x l.length)).length = l.length := by rw [putL_len]; exact hol
      have hl1000 : (l.length : Int) ≤ 1000 := by omega
      have fact : ∀ j, j < l.length → ∃ C : Nat, ∃ hC : C < l.length, ∃ hj : j < (anyO x l.length).length, ∃ B : Nat, (anyO x l.length)[j] = C ∧ bfAt A (putL l (anyO x l.length)) j = B ∧ B < s.cols.length ∧ (putL l (anyO x l.length)).getD j default = l[C] ∧ bfAt A (putL l (anyO x l.length)) (j + 1) = l[C].c ∧ batErr s l[C] = 0 := by
        intro j hj
        have hj' : j < (anyO x l.length).length := by omega
        obtain ⟨C, hoC, hC, hPe⟩ := putL_at hob j hj'
        have hjP : j < (putL l (anyO x l.length)).length := by omega
        have hB : 0 ≤ bfAt A (putL l (anyO x l.length)) j ∧ bfAt A (putL l (anyO x l.length)) j < s.cols.length := by
          unfold bfAt
          by_cases hj0 : j = 0
          · rw [if_pos hj0]; omega
          · rw [if_neg hj0]
            obtain ⟨C', _, hC', hP'⟩ := putL_at hob (j - 1) (by omega)
            rw [getD_at _ _ _ (show j - 1 < (putL l (anyO x l.length)).length by omega), hP']
            exact (okBat_all hbe C' hC').1
        exact ⟨C, hC, hj', (bfAt A (putL l (anyO x l.length)) j).toNat, hoC, by omega, by omega, by rw [getD_at _ _ _ hjP]; exact hPe, by simp [bfAt, List.getD, hjP, hPe], batErr_of s _ (okBat_all hbe C hC)⟩
      have hpl : ∀ j, j < (putL l (anyO x l.length)).length → Placed s A (putL l (anyO x l.length)) j := fun j hj => by
        obtain ⟨C, hC, hj', B, e1, e2, e3, e4, e5, e6⟩ := fact j (by omega)
        exact ⟨B, e2, e3, by rw [e4]; exact e6⟩
      have f1 := shows_tried (R := R) hask hP
      have f2 := some_first (x := t) (R := R) hg hpl l.length (by omega)
      have f3 := lost_poss h2 hask hpl hP
      have f4 := shows_needed h2 hask hpl hP
      have f5 := firstV_cases s A (putL l (anyO x l.length)) R l.length
      simp [kp9, pn, pe, o2, o1, l12, l11, l10, l9, l8, l7, l6, l5, l4, l3, l2, l1, s37, s38, s39, s40, s41, sAwake, s36, sRinses, sLost, sShows, rShp_enc, rShp_dec, rTri_enc, rSty_decX, rSty_enc, rCol_enc, rBat_enc, rBat_dec, rBat_k, rBat_decL, rK_decL8, rInt_decL, hs, hx, h1, hne, hne', hAe, hlen, hl1000]
      (generalize hLoopQ : Cx.loop _ _ _ = rLoopQ; apply loop_then hLoopQ (fun k => ⟨[(1, .d (.sl 2 (l.map rBat.enc))), (3, .loc 3 0), (5, .loc 5 0), (7, .d (DI A)), (8, .d (.sl 1 ((anyO x l.length).map rInt.enc))), (9, .sl 1 ((rinL R k).map rInt.enc) (.tok 9)), (10, .sl 1 ((needL s A (putL l (anyO x l.length)) k).map rInt.enc) (.tok 10)), (11, .d (DI (bfAt A (putL l (anyO x l.length)) k))), (12, .d (.v (.bool (possB s A (putL l (anyO x l.length)) k)))), (13, .d (DI (firstV s A (putL l (anyO x l.length)) R k))), (14, .d (.v (.bool (someB s A (putL l (anyO x l.length)) R t k)))), (15, .d (DI k))], [(3, [.d (.sl 4 (s.cols.map rCol.enc)), .d (DI s.keep.lo), .d (DI s.keep.hi), .d (DI s.rinse)]), (5, [.d (.sl 1 (x.map (rK .u8).enc)), .d (.sl 1 (R.map (rK .u8).enc)), .d (.v (.int .u8 t.before)), .d (.v (.int .u16 t.stay)), .d (.v (.int .u16 t.k0)), .d (.v (.int .u16 t.k1)), .d (.v (.int .u16 t.k2)), .d (.v (.int .u8 t.rinses))])], [10, 9]⟩) l.length rfl; rotate_left; (show _ < 281474976710656; omega); rfl; rotate_left; all_goals clear hLoopQ)
      · intro j hj
        obtain ⟨C, hC, hj', B, e0, e1, hB, e2, e3, e4⟩ := fact j hj
        have wj := wrap_small ((j : Int) + 1) (by omega) (by omega)
        have hj3 : (j : Int) ≤ 1000000 := by omega
        have b1 : j + 1 ≤ 140737488355328 := by omega
        have b2 : (j + 1) * 8 ≤ 140737488355328 := by omega
        have hri : rinsAt s A (putL l (anyO x l.length)) j = rinsesR s B l[C] := by unfold rinsAt; rw [e1, e2]
        have hsh : shownAt s A (putL l (anyO x l.length)) R t j = shownV s B l[C] (leftV s B t (rinV R j)) (rinV R j) := by unfold shownAt; rw [e1, e2]; rfl
        have hca : canI s A (putL l (anyO x l.length)) R j = shownV s B l[C] (mostV s B (rinV R j)) (rinV R j) := by unfold canI; rw [e1, e2, canShow_most]; rfl
        have hrt := turn_bd hR j
        have hrm : (turnV R j).tmod 4 = (rinV R j : Int) := by
          rw [Int.tmod_eq_emod_of_nonneg hrt.1]; unfold rinV; omega
        have hrn : rinV R j ≤ 3 := by have := Nat.mod_lt (turnV R j).toNat (show 0 < 4 by omega); unfold rinV; omega
        have hnx : bfAt A (putL l (anyO x l.length)) (j + 1) = l[C].c := e3
        have hcan : canOk s B l[C] := ⟨h2, e4, by omega, by omega⟩
        have hgd : s.cols.getD B default = s.cols[B] := getD_at _ _ _ hB
        have hp1 : possB s A (putL l (anyO x l.length)) (j + 1) = (possB s A (putL l (anyO x l.length)) j && ((rinsAt s A (putL l (anyO x l.length)) j).2 == 0)) := rfl
        have hs1 : someB s A (putL l (anyO x l.length)) R t (j + 1) = (someB s A (putL l (anyO x l.length)) R t j || shownAt s A (putL l (anyO x l.length)) R t j) := rfl
        have hf1 : firstV s A (putL l (anyO x l.length)) R (j + 1) = if firstV s A (putL l (anyO x l.length)) R j < 0 then (if canI s A (putL l (anyO x l.length)) R j = true then (j : Int) else -1) else firstV s A (putL l (anyO x l.length)) R j := rfl
        have hfc : firstV s A (putL l (anyO x l.length)) R j = -1 ∨ 0 ≤ firstV s A (putL l (anyO x l.length)) R j := by
          rcases firstV_cases s A (putL l (anyO x l.length)) R j with ⟨y, _⟩ | ⟨i, _, y, _⟩
          · exact .inl y
          · exact .inr (by omega)
        simp only [hp1, hs1, hf1, hnx, rinL_succ, needL_succ]
        rw [hri, hsh, hca]
        have hlv := leftV_bd hg hB t (rinV R j)
        have hlv2 : leftV s B t (rinV R j) ≤ 1000000000000 := Int.le_trans hlv.2 (by have := (pow1000 (rinV R j) hrn).2; omega)
        have hmb := most_bd hg hB (rinV R j) hrn
        obtain ⟨q1, q2, q3⟩ := powR_eq s.keep.hi (by have := hg.k0; have := hg.k1; omega) hg.k2 (rinV R j) hrn
        have w2 : IntKind.i64.wrap (s.cols[B].stay.hi * s.keep.hi ^ (rinV R j)) = mostV s B (rinV R j) := by
          have e : mostV s B (rinV R j) = s.cols[B].stay.hi * s.keep.hi ^ (rinV R j) := by unfold mostV; rw [hgd]
          rw [← e]; exact wrap_small _ (by omega) (by omega)
        have hr3 : (rinV R j : Int) ≤ 3 := by omega
        have hr9 : (rinV R j : Int) < 100 := by omega
        generalize hMo : mostV s B (rinV R j) = MO at *
        generalize hLe : leftV s B t (rinV R j) = LE at *
        generalize hrv : rinV R j = r at *
        generalize possB s A (putL l (anyO x l.length)) j = p at *
        generalize someB s A (putL l (anyO x l.length)) R t j = q at *
        generalize firstV s A (putL l (anyO x l.length)) R j = f at *
        generalize hS1 : shownV s B l[C] LE r = v1 at *
        generalize hS2 : shownV s B l[C] MO r = v2 at *
        obtain ⟨rn, re, hrr⟩ : ∃ rn re, rinsesR s B l[C] = (rn, re) := ⟨_, _, rfl⟩
        have hfc' : (f = -1 ∧ v2 = true) ∨ (f = -1 ∧ v2 = false) ∨ (0 ≤ f ∧ ¬ f < 0) := by
          rcases hfc with h | h
          · cases v2
            · exact .inr (.inl ⟨h, rfl⟩)
            · exact .inl ⟨h, rfl⟩
          · exact .inr (.inr ⟨h, by omega⟩)
        rcases hfc' with ⟨rfl, c2⟩ | ⟨rfl, c2⟩ | ⟨c1, c2⟩
        all_goals cases p
        all_goals cases q
        all_goals simp [kp9, pn, pe, o2, o1, l12, l11, l10, l9, l8, l7, l6, l5, l4, l3, l2, l1, s37, s38, s39, s40, s41, sAwake, s36, sRinses, sLost, sShows, rShp_enc, rShp_dec, rTri_enc, rSty_decX, rSty_enc, rCol_enc, rBat_enc, rBat_dec, rBat_k, rBat_decL, rK_decL8, rInt_decL, hs, hx, hR, ht, h2, hj, hol, hC, e0, e1, e2, hrm, hr3, hB, hcan, hlv.1, hlv2, hmb, q1, w2, hj3, b1, b2, wj, rinL_len, needL_len, hlen, hr9, hMo, hLe, hS1, hS2, hrr, c2]
      · have hsf : someB s A (putL l (anyO x l.length)) R t l.length = true → ¬ firstV s A (putL l (anyO x l.length)) R l.length < 0 := by
          intro h hlt
          rcases f5 with ⟨_, y⟩ | ⟨i, _, y, _⟩
          · rw [f2 y] at h; cases h
          · omega
        obtain ⟨lo, le, hlo⟩ : ∃ lo le, lostR s A l (anyO x l.length) = (lo, le) := ⟨_, _, rfl⟩
        obtain ⟨na, nn, hna⟩ : ∃ na nn, showsR s A l (anyO x l.length) (needL s A (putL l (anyO x l.length)) l.length) = (na, nn) := ⟨_, _, rfl⟩
        rw [hlo] at f3
        rw [hna] at f4
        simp only at f3
        generalize hp : possB s A (putL l (anyO x l.length)) l.length = p at *
        generalize hq : someB s A (putL l (anyO x l.length)) R t l.length = q at *
        generalize hf : firstV s A (putL l (anyO x l.length)) R l.length = f at *
        cases p
        · cases q
          · simp [kp9, pn, pe, o2, o1, l12, l11, l10, l9, l8, l7, l6, l5, l4, l3, l2, l1, s37, s38, s39, s40, s41, sAwake, s36, sRinses, sLost, sShows, rShp_enc, rShp_dec, rTri_enc, rSty_decX, rSty_enc, rCol_enc, rBat_enc, rBat_dec, rBat_k, rBat_decL, rK_decL8, rInt_decL, hs, hx, hR, ht, hp, hq, hf, hlen, f1, hlo, hna, f3]
          · have := hsf rfl
            simp [kp9, pn, pe, o2, o1, l12, l11, l10, l9, l8, l7, l6, l5, l4, l3, l2, l1, s37, s38, s39, s40, s41, sAwake, s36, sRinses, sLost, sShows, rShp_enc, rShp_dec, rTri_enc, rSty_decX, rSty_enc, rCol_enc, rBat_enc, rBat_dec, rBat_k, rBat_decL, rK_decL8, rInt_decL, hs, hx, hR, ht, hp, hq, hf, hlen, f1, hlo, hna, f3, this]
        · have h4 := f4 rfl
          cases h4
          have hle : le = 0 := by simpa using f3
          cases q
          · simp [kp9, pn, pe, o2, o1, l12, l11, l10, l9, l8, l7, l6, l5, l4, l3, l2, l1, s37, s38, s39, s40, s41, sAwake, s36, sRinses, sLost, sShows, rShp_enc, rShp_dec, rTri_enc, rSty_decX, rSty_enc, rCol_enc, rBat_enc, rBat_dec, rBat_k, rBat_decL, rK_decL8, rInt_decL, hs, hx, hR, ht, hp, hq, hf, hlen, f1, hlo, hna, f3, hle]
          · have := hsf rfl
            simp [kp9, pn, pe, o2, o1, l12, l11, l10, l9, l8, l7, l6, l5, l4, l3, l2, l1, s37, s38, s39, s40, s41, sAwake, s36, sRinses, sLost, sShows, rShp_enc, rShp_dec, rTri_enc, rSty_decX, rSty_enc, rCol_enc, rBat_enc, rBat_dec, rBat_k, rBat_decL, rK_decL8, rInt_decL, hs, hx, hR, ht, hp, hq, hf, hlen, f1, hlo, hna, f3, hle, this]
    · have h1' : (validE s l == 0) = false := by simpa using h1
      have h1'' : (validE s l != 0) = true := by simpa using h1
      simp [kp9, pn, pe, sAwake, s36, rShp_enc, rShp_dec, rTri_enc, rBat_k, rBat_decL, hs, h1, h1', h1'']
  · cases hr
end Go.Proofs.Ytpkjmnfgpbliaaa
