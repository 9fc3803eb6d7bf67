/-
  The law DipWarmer: at a higher warmth, and with more seconds, no end becomes thicker. Conditions: none.
-/
import Derived.Test.YtcgacojnfkklaaaGreatDoorZLawB
import Derived.Test.YtcgacojnfkklaaaGreatDoorZAmF
namespace Go.Proofs.YtcgacojnfkklaaaGreatDoor
open Go.RowKit
set_option linter.unusedSimpArgs false
set_option linter.unusedVariables false
def kp13 (r : Nat) : List (Nat × Option Nat) := match r with
  | 0 => [(3, none), (4, none), (5, none)]
  | 1 => [(3, none), (4, none), (5, none), (7, none)]
  | 2 => [(3, none), (4, none), (5, none), (7, none), (26, none)]
  | 3 => [(6, none)]
  | 4 => [(3, none), (4, none), (5, none), (7, none), (8, none), (9, none)]
  | 5 => [(3, none), (4, none), (5, none), (7, none), (8, none), (9, none), (10, none), (11, none)]
  | 6 => [(3, none), (4, none), (5, none), (7, none), (8, none), (9, none), (10, none), (11, none)]
  | 7 => [(3, none), (4, none), (7, none), (8, none), (9, none), (10, none), (11, none)]
  | 8 => [(3, none), (4, none), (7, none), (8, none), (9, none), (10, none), (11, none), (12, none), (13, none)]
  | 9 => [(3, none), (4, none), (7, none), (8, none), (9, none), (10, none), (11, none), (12, none), (13, none), (14, none), (15, none)]
  | 10 => [(3, none), (4, none), (7, none), (8, none), (9, none), (11, none), (12, none), (13, none), (14, none), (15, none), (16, none), (17, none)]
  | 11 => [(4, none), (12, none), (13, none), (14, none), (15, none), (16, none), (17, none), (18, none), (19, none)]
  | 12 => [(4, none), (12, none), (13, none), (14, none), (15, none), (16, none), (17, none), (18, none), (123, none)]
  | 13 => [(6, none)]
  | 14 => [(6, none)]
  | _ => []
structure Four where
  a : Int
  b : Int
  c : Int
  d : Int
def rFour : Row Four := ⟨4, fun x => [.v (.int .u16 x.a), .v (.int .u16 x.b), .v (.int .u16 x.c), .v (.int .u16 x.d)], fun d => match d with | [.v (.int .u16 a0), .v (.int .u16 a1), .v (.int .u16 a2), .v (.int .u16 a3)] => some ⟨a0, a1, a2, a3⟩ | _ => none, fun _ => rfl, fun d x h => by
  split at h
  · cases h; exact LImp.refl _
  · cases h⟩
theorem rFour_enc (x : Four) : rFour.enc x = [.v (.int .u16 x.a), .v (.int .u16 x.b), .v (.int .u16 x.c), .v (.int .u16 x.d)] := rfl
def wordB (n : Int) : Prop := 0 ≤ n ∧ n ≤ 65535
instance (n : Int) : Decidable (wordB n) := inferInstanceAs (Decidable (_ ∧ _))
def fourOk (x : Four) : Prop := wordB x.a ∧ wordB x.b ∧ wordB x.c ∧ wordB x.d
instance (x : Four) : Decidable (fourOk x) := inferInstanceAs (Decidable (_ ∧ _))
def bigT : Tap := ⟨0, 100000, 100000⟩
theorem big_ok : tapE bigT = 0 := by decide
theorem grown_secs {x : Dsh} {d e : Dip} {w : Int} (h : gOk x d w) (h1 : e.turned = d.turned) (h2 : e.pause = d.pause) (hs : d.secs ≤ e.secs) : (grownV x e w).1 ≤ (grownV x d w).1 ∧ (grownV x e w).2 ≤ (grownV x d w).2 := by
  have a := coat_secs (n := d.secs) (k := e.secs) h.1.1 h.1.2.1 hs
  have b := coat_secs (n := d.secs - x.draw) (k := e.secs - x.draw) h.1.1 h.1.2.1 (by omega)
  unfold grownV
  rw [h1, h2]
  cases d.turned <;> simp only [Bool.false_eq_true, if_false, if_true] <;> omega
theorem skew_pause {x : Dsh} {d e : Dip} {w : Int} (h : numbersB x = true) (h1 : e.turned = d.turned) (h2 : e.secs = d.secs) (hp : d.pause ≤ e.pause) (ht : d.turned = false) : skewV x e w ≤ skewV x d w := by
  have hx := nums_of h
  have a := Int.mul_le_mul_of_nonneg_left (show max 0 (x.set - e.pause) ≤ max 0 (x.set - d.pause) by omega) hx.r0
  unfold skewV grownV
  rw [h1, h2, ht]
  simp only [Bool.false_eq_true, if_false]
  omega
theorem follow_one {x : Dsh} {d : Dip} {w : Int} (h : okD x d) (h1 : (warmV x d).lo ≤ w) (h2 : w ≤ (warmV x d).hi) : (followR x bigT [d] [w] = (dippedV x bigT d w, 0) ∧ 0 ≤ (dippedV x bigT d w).top ∧ 0 ≤ (dippedV x bigT d w).foot) ∨ (followR x bigT [d] [w] = (⟨0, 0, 0⟩, 9) ∧ ¬ (0 ≤ (dippedV x bigT d w).top ∧ 0 ≤ (dippedV x bigT d w).foot)) := by
  have hl : okL x [d] := ⟨h.1, by simp, fun e he => by rw [List.mem_singleton.1 he]; exact h.2⟩
  have ha : askedE x bigT [d] = 0 := asked_of big_ok hl
  have hw : wIn x [d] [w] := ⟨rfl, fun k hk => by
    have : k = 0 := by simpa using hk
    subst this; exact ⟨h1, h2⟩⟩
  have hk : (followR x bigT [d] [w]).2 = 0 ↔ 0 ≤ (dippedV x bigT d w).top ∧ 0 ≤ (dippedV x bigT d w).foot := by
    rw [follow_ok]
    have e : flS x bigT [d] [w] 1 = dippedV x bigT d w := rfl
    have wk : (dippedV x bigT d w).wick = 0 := rfl
    constructor
    · intro h3
      have := h3.2.2 0 (by simp)
      rw [e] at this
      unfold lostB at this
      rw [wk] at this
      simp at this
      exact this
    · intro h3
      refine ⟨ha, hw, fun k hk => ?_⟩
      have : k = 0 := by simpa using hk
      subst this
      rw [e]
      unfold lostB
      rw [wk]
      simp; exact h3
  by_cases hf : (followR x bigT [d] [w]).2 = 0
  · exact .inl ⟨follow_val hf, hk.1 hf⟩
  · exact .inr ⟨follow_err ha hw hf, fun h3 => hf (hk.2 h3)⟩
theorem okD_more {x : Dsh} {d : Dip} {ls lp : Int} (h : okD x d) (h1 : d.secs ≤ ls) (h2 : ls ≤ 600) (h3 : d.pause ≤ lp) (h4 : lp ≤ 600) : okD x ⟨d.bath, ls, lp, d.turned⟩ := by
  refine ⟨h.1, ?_⟩
  obtain ⟨q1, q2, q3, q4⟩ := dipE_zero h.2
  have p2 := inR_iff.1 q2
  have p3 := inR_iff.1 q3
  unfold dipE
  have e1 : inR ls 0 600 = true := inR_iff.2 (by omega)
  have e2 : inR lp 0 600 = true := inR_iff.2 (by omega)
  show (if !inR d.bath 0 ((x.baths.length : Int) - 1) then (4 : Int) else if !(inR ls 0 600 && inR lp 0 600) then 7 else if ls ≤ x.draw then 2 else 0) = 0
  rw [q1, e1, e2, if_neg (show ¬ ls ≤ x.draw by omega)]
  rfl
structure W4 where
  (u1 u2 u3 u4 : Tap)
  (e f g h : Int)
def W4.ok (r : W4) (t : Bool) : Prop := (r.e = 9 ∧ r.f = 9 ∧ r.g = 9) ∨ (r.e = 0 ∧ r.f = 9 ∧ r.g = 9) ∨ (r.e = 0 ∧ r.f = 0 ∧ r.g = 9) ∨ (r.e = 0 ∧ r.f = 0 ∧ r.g = 0 ∧ r.h = 9) ∨
  (r.e = 0 ∧ r.f = 0 ∧ r.g = 0 ∧ r.h = 0 ∧ (r.u2.top ≤ r.u1.top ∧ r.u2.foot ≤ r.u1.foot ∧ r.u3.top ≤ r.u2.top ∧ r.u3.foot ≤ r.u2.foot) ∧ (t = true ∨ r.u4.foot - r.u4.top ≤ r.u1.foot - r.u1.top) ∧
    ((0 ≤ r.u1.top ∧ r.u1.top ≤ 1000000000) ∧ 0 ≤ r.u1.foot ∧ r.u1.foot ≤ 1000000000) ∧ (0 ≤ r.u4.top ∧ r.u4.top ≤ 1000000000) ∧ 0 ≤ r.u4.foot ∧ r.u4.foot ≤ 1000000000)
theorem warm_law {x : Dsh} {d : Dip} {mn mx ls lp : Int} (hd : okD x d) (h1 : (warmV x d).lo ≤ mn) (h2 : mn ≤ mx) (h3 : mx ≤ (warmV x d).hi) (k1 : d.secs ≤ ls) (k2 : ls ≤ 600) (k3 : d.pause ≤ lp) (k4 : lp ≤ 600) :
    ∃ r : W4, followR x bigT [d] [mn] = (r.u1, r.e) ∧ followR x bigT [d] [mx] = (r.u2, r.f) ∧ followR x bigT [⟨d.bath, ls, d.pause, d.turned⟩] [mx] = (r.u3, r.g) ∧ followR x bigT [⟨d.bath, d.secs, lp, d.turned⟩] [mn] = (r.u4, r.h) ∧ r.ok d.turned := by
  obtain ⟨B, e1, hB, e2, _, g1, g2, g3, g4⟩ := okD_bath hd
  obtain ⟨q1, q2, q3, q4⟩ := dipE_zero hd.2
  have p3 := inR_iff.1 q3
  have p2 := inR_iff.1 q2
  have hl : okD x ⟨d.bath, ls, d.pause, d.turned⟩ := okD_more hd k1 k2 (Int.le_refl _) p3.2
  have hp : okD x ⟨d.bath, d.secs, lp, d.turned⟩ := okD_more hd (Int.le_refl _) p2.2 k3 k4
  have gn := g4 mn h1 (by omega)
  have gx := g4 mx (by omega) h3
  obtain ⟨_, _, _, _, _, _, _, _, gl4⟩ := okD_bath hl
  obtain ⟨_, _, _, _, _, _, _, _, gp4⟩ := okD_bath hp
  have gl := gl4 mx (show (warmV x d).lo ≤ mx by omega) h3
  have gp := gp4 mn h1 (show mn ≤ (warmV x d).hi by omega)
  have m1 := grown_warm gn h2
  have m2 : (grownV x ⟨d.bath, ls, d.pause, d.turned⟩ mx).1 ≤ (grownV x d mx).1 ∧ (grownV x ⟨d.bath, ls, d.pause, d.turned⟩ mx).2 ≤ (grownV x d mx).2 := grown_secs gx rfl rfl k1
  have m3 : d.turned = false → skewV x ⟨d.bath, d.secs, lp, d.turned⟩ mn ≤ skewV x d mn := skew_pause (x := x) (d := d) (e := ⟨d.bath, d.secs, lp, d.turned⟩) gn.1.1 rfl rfl k3
  have b1 := grown_bd gn
  have b4 := grown_bd gp
  have f1 := follow_one hd h1 (show mn ≤ _ by omega)
  have f2 := follow_one hd (show _ ≤ mx by omega) h3
  have f3 := follow_one hl (show (warmV x d).lo ≤ mx by omega) h3
  have f4 := follow_one hp h1 (show mn ≤ (warmV x d).hi by omega)
  have t1 : bigT.top = 100000 := rfl
  have t2 : bigT.foot = 100000 := rfl
  simp only [dippedV, t1, t2] at f1 f2 f3 f4
  rcases f1 with ⟨f1, n1⟩ | ⟨f1, n1⟩
  · rcases f2 with ⟨f2, n2⟩ | ⟨f2, n2⟩
    · rcases f3 with ⟨f3, n3⟩ | ⟨f3, n3⟩
      · rcases f4 with ⟨f4, n4⟩ | ⟨f4, n4⟩
        · refine ⟨⟨_, _, _, _, _, _, _, _⟩, f1, f2, f3, f4, .inr (.inr (.inr (.inr ⟨rfl, rfl, rfl, rfl, ?_, ?_, ?_⟩)))⟩
          · simp only; omega
          · simp only
            cases ht : d.turned
            · rw [ht] at m3
              have := m3 rfl
              unfold skewV at this
              right
              omega
            · exact .inl rfl
          · simp only; omega
        · exact ⟨⟨_, _, _, _, _, _, _, _⟩, f1, f2, f3, f4, .inr (.inr (.inr (.inl ⟨rfl, rfl, rfl, rfl⟩)))⟩
      · rcases f4 with ⟨f4, n4⟩ | ⟨f4, n4⟩ <;> exact ⟨⟨_, _, _, _, _, _, _, _⟩, f1, f2, f3, f4, .inr (.inr (.inl ⟨rfl, rfl, rfl⟩))⟩
    · rcases f3 with ⟨f3, n3⟩ | ⟨f3, n3⟩
      · omega
      · rcases f4 with ⟨f4, n4⟩ | ⟨f4, n4⟩ <;> exact ⟨⟨_, _, _, _, _, _, _, _⟩, f1, f2, f3, f4, .inr (.inl ⟨rfl, rfl, rfl⟩)⟩
  · rcases f2 with ⟨f2, n2⟩ | ⟨f2, n2⟩
    · omega
    · rcases f3 with ⟨f3, n3⟩ | ⟨f3, n3⟩
      · omega
      · rcases f4 with ⟨f4, n4⟩ | ⟨f4, n4⟩ <;> exact ⟨⟨_, _, _, _, _, _, _, _⟩, f1, f2, f3, f4, .inl ⟨rfl, rfl, rfl⟩⟩
theorem big_dec : rTap.dec [.v (.int .i64 0), .v (.int .i64 100000), .v (.int .i64 100000)] = some bigT := rfl
theorem one_dec (a b c : Int) (e : Bool) : (cList rDip).dec (.sl 4 [[.v (.int .i64 a), .v (.int .i64 b), .v (.int .i64 c), .v (.bool e)]]) = some [⟨a, b, c, e⟩] := rfl
theorem int_dec (a : Int) : (cList rInt).dec (.sl 1 [[.v (.int .i64 a)]]) = some [a] := rfl
theorem word_dec (a : Int) : (cList (rK .u16)).dec (.sl 1 [[.v (.int .u16 a)]]) = some [a] := rfl
theorem minmax_bd {A C lo hi : Int} (h1 : lo ≤ A ∧ A ≤ hi) (h2 : lo ≤ C ∧ C ≤ hi) : ∃ mn mx, (if C < A then C else A) = mn ∧ (if A < C then C else A) = mx ∧ lo ≤ mn ∧ mn ≤ mx ∧ mx ≤ hi := by
  refine ⟨_, _, rfl, rfl, ?_⟩
  split <;> split <;> omega
theorem more_bd {n y : Int} (h1 : 0 ≤ n ∧ n ≤ 600) (h2 : 0 ≤ y) : ∃ m, (if n + y % 100 < 600 then n + y % 100 else 600) = m ∧ n ≤ m ∧ m ≤ 600 := by
  refine ⟨_, rfl, ?_⟩
  split <;> omega
def s13 : List D → Option D := sp3 (cAgg rDsh) (cAgg rDip) (cAgg rFour) cBool fun x d y => if namesOk x ∧ fourOk y then some true else none
set_option maxHeartbeats 8000000 in
theorem ok13 : ∀ ds d, s13 ds = some d → PureC Tryz.prog 13 ds d := ok_sp3 fun x d y r hr => by
  split at hr
  · rename_i hc
    cases hr
    obtain ⟨hs, hy⟩ := hc
    obtain ⟨y0, y1, y2, y3⟩ := y
    obtain ⟨⟨a0, a1⟩, ⟨b0, b1⟩, ⟨c0, c1⟩, d0, d1⟩ := hy
    simp only at a0 a1 b0 b1 c0 c1 d0 d1
    obtain ⟨db, ds, dp, dt⟩ := d
    refine pure_handD Tryz.func13 rfl rfl (Nat.le_of_ble_eq_true rfl) fun m w a I ha0 => ?_
    have fin : ∀ (bs : List (Nat × List X)) (tk : List Nat) (mp : List (Nat × (Nat × List (Value × Value)))) g' a' w', Inv 195 m (pureD w []) g' ⟨[(6, .d (DB true))], bs, tk, mp⟩ a' w' → bodyPostD Tryz.prog Tryz.f13 (RetR m w (DB true)) .ret a' w' := by
      intro bs tk mp g' a' w' I'
      refine post_ret (mkCx_ok dtb 195 kp13 []) I' (r := [DB true]) ?_ rfl
      rw [Tryz.results13]; simp
    refine am_cut (mkCx_ok dtb 195 kp13 []) 0 _ rfl (by kernel_rfl) (by kernel_rfl) (fun _ _ => rfl) _ _ _ _ I ?_
    simp [cutA, kp13, rDsh_enc, rDip_enc, rFour_enc, codeK_some]
    intro gg1 aa1 ww1 I1
    obtain ⟨gg2, I2⟩ := freeze_at (mkCx_ok dtb 195 kp13 []) (b := 5) (t := 5) rfl rfl rfl rfl I1 I1.deferred
    refine am_code (mkCx_ok dtb 195 kp13 []) (by kernel_rfl) (by kernel_rfl) I2 (fun _ _ => rfl) ?_
    by_cases ha : askedE x bigT [⟨db, ds, dp, dt⟩] = 0
    · obtain ⟨_, ht, hl⟩ := asked_ok ha
      have hvB : validB x bigT [⟨db, ds, dp, dt⟩] = true := by unfold validB; simpa using ha
      have hd : okD x ⟨db, ds, dp, dt⟩ := okL_at hl 0 (by simp)
      have w0 : wordOk [y0] := fun z hz => by rw [List.mem_singleton.1 hz]; exact ⟨a0, a1⟩
      have w1 : wordOk [y1] := fun z hz => by rw [List.mem_singleton.1 hz]; exact ⟨b0, b1⟩
      have v0 : warmedV x [⟨db, ds, dp, dt⟩] [y0] = [amongV (warmV x ⟨db, ds, dp, dt⟩) y0] := rfl
      have v1 : warmedV x [⟨db, ds, dp, dt⟩] [y1] = [amongV (warmV x ⟨db, ds, dp, dt⟩) y1] := rfl
      obtain ⟨B, e1, hB, e2, hB6, g1, g2, g3, g4⟩ := okD_bath hd
      obtain ⟨q1, q2, q3, q4⟩ := dipE_zero hd.2
      have p2 := inR_iff.1 q2
      have p3 := inR_iff.1 q3
      simp only at p2 p3
      have hA := among_bd (n := y0) g3
      have hC := among_bd (n := y1) g3
      obtain ⟨mn, mx, hmn, hmx, k1, k2, k3⟩ := minmax_bd hA hC
      obtain ⟨ls, hls, k4, k5⟩ := more_bd p2 c0
      obtain ⟨lp, hlp, k6, k7⟩ := more_bd p3 d0
      obtain ⟨r, f1, f2, f3, f4, hr⟩ := warm_law hd k1 k2 k3 k4 k5 k6 k7
      simp only at f1 f2 f3 f4 hr
      generalize amongV (warmV x ⟨db, ds, dp, dt⟩) y0 = A at *
      generalize amongV (warmV x ⟨db, ds, dp, dt⟩) y1 = C at *
      have x2 := wrap_small y2 (by omega) (by omega)
      have x3 := wrap_small y3 (by omega) (by omega)
      have x4 : y2.tmod 100 = y2 % 100 := Int.tmod_eq_emod_of_nonneg c0
      have x5 : y3.tmod 100 = y3 % 100 := Int.tmod_eq_emod_of_nonneg d0
      have x6 := wrap_small (y2 % 100) (by omega) (by omega)
      have x7 := wrap_small (y3 % 100) (by omega) (by omega)
      have x8 := wrap_small (ds + y2 % 100) (by omega) (by omega)
      have x9 := wrap_small (dp + y3 % 100) (by omega) (by omega)
      obtain ⟨⟨a1, t1, l1⟩, ⟨a2, t2, l2⟩, ⟨a3, t3, l3⟩, ⟨a4, t4, l4⟩, e, f, g, h⟩ := r
      simp only at f1 f2 f3 f4
      rcases hr with ⟨rfl, rfl, rfl⟩ | ⟨rfl, rfl, rfl⟩ | ⟨rfl, rfl, rfl⟩ | ⟨rfl, rfl, rfl, rfl⟩ | ⟨rfl, rfl, rfl, rfl, hc, hk, hb1, hb4⟩
      · simp [cutB, kp13, rDsh_enc, rDsh_dec, rTap_enc, rTap_dec, rDip_enc, rDip_k, rDip_decL, rInt_k, rInt_enc, snapB, rFour_enc, tb, s22, s20, s40, s41, big_dec, one_dec, int_dec, word_dec, hs, hvB, hl, w0, w1, v0, v1, codeK_some, hmn, hmx, hls, hlp, f1, f2, f3, f4, x2, x3, x4, x5, x6, x7, x8, x9]
        exact fun g' a' w' I' => fin _ _ _ g' a' w' I'
      · simp [cutB, kp13, rDsh_enc, rDsh_dec, rTap_enc, rTap_dec, rDip_enc, rDip_k, rDip_decL, rInt_k, rInt_enc, snapB, rFour_enc, tb, s22, s20, s40, s41, big_dec, one_dec, int_dec, word_dec, hs, hvB, hl, w0, w1, v0, v1, codeK_some, hmn, hmx, hls, hlp, f1, f2, f3, f4, x2, x3, x4, x5, x6, x7, x8, x9]
        exact fun g' a' w' I' => fin _ _ _ g' a' w' I'
      · simp [cutB, kp13, rDsh_enc, rDsh_dec, rTap_enc, rTap_dec, rDip_enc, rDip_k, rDip_decL, rInt_k, rInt_enc, snapB, rFour_enc, tb, s22, s20, s40, s41, big_dec, one_dec, int_dec, word_dec, hs, hvB, hl, w0, w1, v0, v1, codeK_some, hmn, hmx, hls, hlp, f1, f2, f3, f4, x2, x3, x4, x5, x6, x7, x8, x9]
        exact fun g' a' w' I' => fin _ _ _ g' a' w' I'
      · simp [cutB, kp13, rDsh_enc, rDsh_dec, rTap_enc, rTap_dec, rDip_enc, rDip_k, rDip_decL, rInt_k, rInt_enc, snapB, rFour_enc, tb, s22, s20, s40, s41, big_dec, one_dec, int_dec, word_dec, hs, hvB, hl, w0, w1, v0, v1, codeK_some, hmn, hmx, hls, hlp, f1, f2, f3, f4, x2, x3, x4, x5, x6, x7, x8, x9]
        exact fun g' a' w' I' => fin _ _ _ g' a' w' I'
      · simp only at hc hk hb1 hb4
        obtain ⟨hc1, hc2, hc3, hc4⟩ := hc
        have z1 := wrap_small (l1 - t1) (by omega) (by omega)
        have z4 := wrap_small (l4 - t4) (by omega) (by omega)
        cases dt
        · have hk := hk.resolve_left (by simp)
          simp [cutB, kp13, rDsh_enc, rDsh_dec, rTap_enc, rTap_dec, rDip_enc, rDip_k, rDip_decL, rInt_k, rInt_enc, snapB, rFour_enc, tb, s22, s20, s40, s41, big_dec, one_dec, int_dec, word_dec, hs, hvB, hl, w0, w1, v0, v1, codeK_some, hmn, hmx, hls, hlp, f1, f2, f3, f4, x2, x3, x4, x5, x6, x7, x8, x9, hc1, hc2, hc3, hc4, hk, z1, z4]
          exact fun g' a' w' I' => fin _ _ _ g' a' w' I'
        · simp [cutB, kp13, rDsh_enc, rDsh_dec, rTap_enc, rTap_dec, rDip_enc, rDip_k, rDip_decL, rInt_k, rInt_enc, snapB, rFour_enc, tb, s22, s20, s40, s41, big_dec, one_dec, int_dec, word_dec, hs, hvB, hl, w0, w1, v0, v1, codeK_some, hmn, hmx, hls, hlp, f1, f2, f3, f4, x2, x3, x4, x5, x6, x7, x8, x9, hc1, hc2, hc3, hc4, z1, z4]
          exact fun g' a' w' I' => fin _ _ _ g' a' w' I'
    · have hvB : validB x bigT [⟨db, ds, dp, dt⟩] = false := by unfold validB; simpa using ha
      simp [cutB, kp13, rDsh_enc, rDsh_dec, rTap_enc, rTap_dec, rDip_enc, rDip_k, rDip_decL, rFour_enc, tb, s22, s40, big_dec, one_dec, hvB, codeK_some]
      exact fun g' a' w' I' => fin _ _ _ g' a' w' I'
  · cases hr
end Go.Proofs.YtcgacojnfkklaaaGreatDoor
