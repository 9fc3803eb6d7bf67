/-
  The program of the wax chapter: a table that is looked at; bounds of a part. Conditions: the names are strings.
-/
import Derived.Test.YtkldmnladkcfeaaGreatDoorZPrB
import Derived.Test.YtkldmnladkcfeaaGreatDoorZAmF
import Derived.Test.YtkldmnladkcfeaaGreatDoorZRefB
namespace Go.Proofs.YtkldmnladkcfeaaGreatDoor
open Go.RowKit
set_option linter.unusedSimpArgs false
set_option linter.unusedVariables false
def kp62 (r : Nat) : List (Nat × Option Nat) := match r with
  | 0 => [(1, none), (2, none)]
  | 1 => [(1, none), (2, none), (8, none)]
  | 2 => [(1, none), (2, none), (8, none), (18, none)]
  | 3 => [(4, none), (5, none)]
  | 4 => [(1, none), (2, none), (25, none)]
  | 5 => [(4, none), (5, none)]
  | 6 => [(1, none), (2, none), (26, none), (27, none), (28, none)]
  | 7 => [(1, none), (2, none), (26, none), (27, none), (28, none), (29, none)]
  | 8 => [(1, none), (2, none), (10, none), (26, none), (27, none), (28, none)]
  | 9 => [(1, none), (2, none), (26, none), (27, none), (28, none), (38, none)]
  | 10 => [(4, none), (5, none)]
  | 11 => [(1, none), (2, none), (26, none), (27, none), (28, none)]
  | 12 => [(4, none), (5, none)]
  | _ => []
def kp64 (r : Nat) : List (Nat × Option Nat) := match r with
  | 0 => [(0, none), (1, none)]
  | 1 => [(0, none), (1, none), (5, none)]
  | 2 => [(5, none), (12, none)]
  | 3 => [(5, none)]
  | 4 => [(4, none)]
  | _ => []
def kp86 (r : Nat) : List (Nat × Option Nat) := match r with
  | 0 => [(0, none), (1, none), (2, none), (3, none)]
  | 1 => [(4, none), (5, none)]
  | _ => []
def kp87 (r : Nat) : List (Nat × Option Nat) := match r with
  | 0 => [(0, none), (1, none), (2, none), (3, none)]
  | 1 => [(4, none), (5, none)]
  | _ => []
def kp88 (r : Nat) : List (Nat × Option Nat) := match r with
  | 0 => [(0, none), (8, none), (9, none), (10, none)]
  | 1 => [(0, none), (8, none), (9, none), (10, none), (11, none)]
  | 2 => [(0, none), (5, none), (8, none), (9, none), (10, none)]
  | 3 => [(0, none), (6, none), (7, none), (8, none), (9, none), (10, none)]
  | 4 => [(0, none), (6, none), (7, none), (8, none), (9, none), (10, none), (19, none)]
  | 5 => [(0, none), (8, none), (9, none), (10, none)]
  | 6 => [(0, none), (6, none), (7, none), (8, none), (9, none), (10, none), (34, none)]
  | 7 => [(0, none), (8, none), (9, none), (10, none)]
  | 8 => [(0, none), (8, none), (9, none), (10, none), (51, none)]
  | 9 => [(0, none), (8, none), (9, none), (10, none)]
  | 10 => [(0, none), (8, none), (9, none), (10, none)]
  | _ => []
structure Smp where
  t : Tbl
  l : List Int
def encSmp (x : Smp) : List D := [.sl 2 (x.t.props.map rPrp.enc), .sl 2 (x.t.kinds.map rKnd.enc), DI x.t.purity, .sl 1 (x.l.map rInt.enc)]
def cSmpP : Cod Smp := ⟨fun x => .dat 4 [encSmp x] 0 0, fun d => match d with | .dat 4 [[a, b, c, e]] 0 0 => (match rTbl.dec [a, b, c], (cList rInt).dec e with | some t, some l => some ⟨t, l⟩ | _, _ => none) | _ => none, fun d x h => by
  split at h
  · rename_i a b c e
    split at h
    · rename_i t l h1 h2
      cases h
      obtain ⟨a', u1, e1, i1, i2⟩ := rTbl.ed _ _ h1
      obtain ⟨b', u2, e2, i3, i4⟩ := i2
      obtain ⟨c', u3, e3, i5, i6⟩ := i4
      simp only [LImp] at i6
      subst i6; subst e3; subst e2
      simp only [rTbl_enc, List.cons.injEq, and_true] at e1
      obtain ⟨rfl, rfl, rfl⟩ := e1
      exact dat_imp (limp_cons i1 (limp_cons i3 (limp_cons i5 (limp_cons ((cList rInt).ed _ _ h2) (LImp.refl _)))))
    · cases h
  · cases h⟩
theorem cSmpP_enc (x : Smp) : cSmpP.enc x = .dat 4 [[.sl 2 (x.t.props.map rPrp.enc), .sl 2 (x.t.kinds.map rKnd.enc), DI x.t.purity, .sl 1 (x.l.map rInt.enc)]] 0 0 := rfl
theorem cSmpP_dec (x : Smp) : cSmpP.dec (.dat 4 [[.sl 2 (x.t.props.map rPrp.enc), .sl 2 (x.t.kinds.map rKnd.enc), DI x.t.purity, .sl 1 (x.l.map rInt.enc)]] 0 0) = some x := by
  simp only [cSmpP, rTbl_dec, rInt_decL]
def cOpen : Cod (Smp × Int) := ⟨fun p => if p.2 = 0 then .tup [cSmpP.enc p.1, DI 0] else .tup [.v (.pointer none), DI p.2], fun d => match d with | .tup [a, .v (.int .i64 n)] => if n = 0 then (cSmpP.dec a).map fun x => (x, 0) else (match a with | .v (.pointer none) => some (⟨⟨[], [], 0⟩, []⟩, n) | _ => none) | _ => none, fun d x h => by
  split at h
  · split at h
    · rename_i hn
      subst hn
      obtain ⟨y, hy, rfl⟩ := Option.map_eq_some_iff.1 h
      simp only [if_true]
      exact LImp.tup (limp_cons (cSmpP.ed _ _ hy) (limp_cons (DImp.refl _) (LImp.refl _)))
    · rename_i hn
      split at h
      · cases h
        simp only [if_neg hn]
        exact DImp.refl _
      · cases h
  · cases h⟩
def openR (x : Tbl) (l : List Int) : Smp × Int := if readE x l = 0 then (⟨x, l⟩, 0) else (⟨⟨[], [], 0⟩, []⟩, readE x l)
def g62 : List (Nat × (List D → Option D)) := (16, s16) :: (50, s50) :: []
theorem dg62 : DelOk Tryz.prog (delOf g62) := del_cons (del_cons del_nil call50 ok50) call16 ok16
def s62 : List D → Option D := sp2 (cAgg rTbl) (cList rInt) cOpen fun x l => if namesOk x then some (openR x l) else none
set_option maxHeartbeats 4000000 in
theorem ok62 : ∀ ds d, s62 ds = some d → PureC Tryz.prog 62 ds d := ok_sp2 fun x l r hr => by
  split at hr
  · rename_i hnm
    cases hr
    refine pure_handD Tryz.func62 rfl rfl (Nat.le_of_ble_eq_true rfl) fun m w a I ha0 => ?_
    have bad : ¬ readE x l = 0 → ∀ (bs : List (Nat × List X)) (tk : List Nat) (mp : List (Nat × (Nat × List (Value × Value)))) g' a' w', Inv 44 m (pureD w []) g' ⟨[(4, .d (.v (.pointer none))), (5, .d (DI (readE x l)))], bs, tk, mp⟩ a' w' → bodyPostD Tryz.prog Tryz.f62 (RetR m w (cOpen.enc (openR x l))) .ret a' w' := by
      intro h bs tk mp g' a' w' I'
      refine post_ret (mkCx_ok dg62 44 kp62 []) I' (r := [.v (.pointer none), DI (readE x l)]) ?_ ?_
      · rw [Tryz.results62]; simp
      · have e : openR x l = (⟨⟨[], [], 0⟩, []⟩, readE x l) := if_neg h
        rw [e]
        simp only [cOpen, if_neg h]
        rfl
    refine am_cut (mkCx_ok dg62 44 kp62 []) 3 _ rfl (by kernel_rfl) (by kernel_rfl) (fun _ _ => rfl) _ _ _ _ I ?_
    by_cases h1 : (chk x).2.2 = 0
    · have f := fine_of h1
      have hp5 := f.p5
      by_cases h2 : l.length = x.props.length
      · have h2I : ((l.length : Int) != x.props.length) = false := by simp [h2]
        rcases first_is badR l with ⟨e1, hall⟩ | ⟨k, hk, e1, hbad, hgood⟩
        · have hE : readE x l = 0 := by unfold readE; rw [if_neg (by simpa using h1), if_neg (by simpa using h2), e1]; rfl
          simp [cutA, kp62, rTbl_enc, rTbl_dec, rPrp_k, rInt_k, g62, s16, hnm, h1, h2I]
          (generalize hLoopQ : Cx.loop _ _ _ = rLoopQ; apply loop_thenK hLoopQ (fun k => ⟨[(1, .d (.sl 1 (l.map rInt.enc))), (2, .loc 2 0), (26, .d (.sl 1 (l.map rInt.enc))), (27, .d (DI l.length)), (28, .d (DI k))], [(2, [.d (.sl 2 (x.props.map rPrp.enc)), .d (.sl 2 (x.kinds.map rKnd.enc)), .d (DI x.purity)])], [], []⟩) l.length rfl; rotate_left; (show _ < 281474976710656; omega); (exact fun h => h); rotate_left; all_goals clear hLoopQ)
          · intro j hj
            have w1 := wrap_small ((j : Int) + 1) (by omega) (by omega)
            have hjl : (j : Int) < l.length := by omega
            have hn := hall j hj
            unfold badR at hn
            by_cases hm : l[j] = -1
            · simp [kp62, hj, hjl, hm, w1]
            · have hm' : (l[j] == -1) = false := by simpa using hm
              have hin : inR l[j] 0 100000 = true := by rw [hm'] at hn; simpa using hn
              have hm2 : (l[j] != -1) = true := by simpa using hm
              simp [kp62, g62, s50, one_dec, out1, hj, hjl, hm2, hin, w1]
          · simp [kp62]
            rw [codeK_some]
            intro g1 a1 w1 I1
            show Code.wpIn _ _ _ (cutB 3 _) _ _ _
            refine am_cut (mkCx_ok dg62 44 kp62 []) 0 _ rfl (by kernel_rfl) (by kernel_rfl) (fun _ _ => rfl) _ _ _ _ I1 ?_
            simp [cutA, cutB, kp62]
            rw [codeK_some]
            intro g2 a2 w2 I2
            obtain ⟨g3, I3⟩ := freeze_at (mkCx_ok dg62 44 kp62 []) (b := 43) (t := 4) rfl rfl rfl rfl I2 I2.deferred
            refine am_code (mkCx_ok dg62 44 kp62 []) (by kernel_rfl) (by kernel_rfl) I3 (fun _ _ => rfl) ?_
            simp [cutB, codeK_some]
            intro g' a' w' I'
            refine post_ret (mkCx_ok dg62 44 kp62 []) I' (r := [cSmpP.enc ⟨x, l⟩, DI 0]) ?_ ?_
            · rw [Tryz.results62]; simp [cSmpP_enc]
            · have e : openR x l = (⟨x, l⟩, 0) := if_pos hE
              rw [e]; rfl
        · have hE : readE x l = 7 := by unfold readE; rw [if_neg (by simpa using h1), if_neg (by simpa using h2), e1]; rfl
          have bad := bad (by omega)
          rw [hE] at bad
          simp [cutA, kp62, rTbl_enc, rTbl_dec, rPrp_k, rInt_k, g62, s16, hnm, h1, h2I]
          (generalize hLoopQ : Cx.loop _ _ _ = rLoopQ; apply loop_thenK hLoopQ (fun k => ⟨[(1, .d (.sl 1 (l.map rInt.enc))), (2, .loc 2 0), (26, .d (.sl 1 (l.map rInt.enc))), (27, .d (DI l.length)), (28, .d (DI k))], [(2, [.d (.sl 2 (x.props.map rPrp.enc)), .d (.sl 2 (x.kinds.map rKnd.enc)), .d (DI x.purity)])], [], []⟩) k rfl; rotate_left; (show _ < 281474976710656; omega); (exact fun h => h); rotate_left; all_goals clear hLoopQ)
          · intro j hj0
            have hj : j < l.length := by omega
            have w1 := wrap_small ((j : Int) + 1) (by omega) (by omega)
            have hjl : (j : Int) < l.length := by omega
            have hn := hgood j hj hj0
            unfold badR at hn
            by_cases hm : l[j] = -1
            · simp [kp62, hj, hjl, hm, w1]
            · have hm' : (l[j] == -1) = false := by simpa using hm
              have hin : inR l[j] 0 100000 = true := by rw [hm'] at hn; simpa using hn
              have hm2 : (l[j] != -1) = true := by simpa using hm
              simp [kp62, g62, s50, one_dec, out1, hj, hjl, hm2, hin, w1]
          · have hkl : (k : Int) < l.length := by omega
            unfold badR at hbad
            simp only [Bool.and_eq_true, Bool.not_eq_true', beq_eq_false_iff_ne] at hbad
            have hm2 : (l[k] != -1) = true := by simpa using hbad.1
            have hin := hbad.2
            simp [kp62, g62, s50, one_dec, out1, hk, hkl, hm2, hin, codeK_some]
            exact fun g' a' w' I' => bad _ _ _ g' a' w' I'
      · have h2I : ((l.length : Int) != x.props.length) = true := bne_iff_ne.2 (by omega)
        have hE : readE x l = 3 := by unfold readE; rw [if_neg (by simpa using h1), if_pos h2]
        have bad := bad (by omega)
        rw [hE] at bad
        simp [cutA, kp62, rTbl_enc, rTbl_dec, rPrp_k, rInt_k, g62, s16, hnm, h1, h2I, codeK_some]
        exact fun g' a' w' I' => bad _ _ _ g' a' w' I'
    · have h2 : ((chk x).2.2 != 0) = true := by simpa using h1
      have hE : readE x l = (chk x).2.2 := by unfold readE; rw [if_pos h1]
      have bad := bad (by rw [hE]; exact h1)
      rw [hE] at bad
      simp [cutA, kp62, rTbl_enc, rTbl_dec, rPrp_k, rInt_k, g62, s16, hnm, h1, h2, codeK_some]
      exact fun g' a' w' I' => bad _ _ _ g' a' w' I'
  · cases hr
theorem call62 (xs : Array Value) (w : World) : (callFunc 62 xs).run Tryz.prog w = .ok (.enter 62 xs) w := by kernel_rfl
theorem down_eq {a b : Int} (hb : 0 < b) : (if a.tmod b < 0 then a.tdiv b - 1 else a.tdiv b) = a / b := by
  have h1 := Int.mul_tdiv_add_tmod a b
  have h2 := Int.mul_ediv_add_emod a b
  have h3 := Int.emod_nonneg a (show b ≠ 0 by omega)
  have h4 := Int.emod_lt_of_pos a hb
  have h5 : -b < a.tmod b := Int.lt_tmod_of_pos a hb
  have h6 : a.tmod b < b := Int.tmod_lt_of_pos a hb
  have key : ∀ q q' r r' : Int, b * q + r = a → b * q' + r' = a → 0 ≤ r' → r' < b → (0 ≤ r → r < b → q = q') ∧ (r < 0 → -b < r → q - 1 = q') := by
    intro q q' r r' e1 e2 r0 r1
    have hq : b * (q - q') = r' - r := by rw [Int.mul_sub]; omega
    constructor
    · intro s0 s1
      rcases Int.lt_trichotomy q q' with h | h | h
      · have := Int.mul_le_mul_of_nonneg_left (show q - q' ≤ -1 by omega) (show 0 ≤ b by omega)
        omega
      · exact h
      · have := Int.mul_le_mul_of_nonneg_left (show 1 ≤ q - q' by omega) (show 0 ≤ b by omega)
        omega
    · intro s0 s1
      rcases Int.lt_trichotomy (q - 1) q' with h | h | h
      · have := Int.mul_le_mul_of_nonneg_left (show q - q' ≤ 0 by omega) (show 0 ≤ b by omega)
        omega
      · exact h
      · have := Int.mul_le_mul_of_nonneg_left (show 2 ≤ q - q' by omega) (show 0 ≤ b by omega)
        omega
  obtain ⟨k1, k2⟩ := key (a.tdiv b) (a / b) (a.tmod b) (a % b) h1 h2 h3 h4
  split
  · rename_i h; exact k2 h h5
  · rename_i h; exact k1 (by omega) h6
def bigOk (a : Int) : Prop := -1000000000 ≤ a ∧ a ≤ 1000000000
instance (a : Int) : Decidable (bigOk a) := inferInstanceAs (Decidable (_ ∧ _))
theorem div_bd {a b : Int} (ha : bigOk a) (hb : 0 < b) : bigOk (a / b) := by
  obtain ⟨h1, h2⟩ := ha
  have h3 := Int.mul_ediv_add_emod a b
  have h4 := Int.emod_nonneg a (show b ≠ 0 by omega)
  have h5 := Int.emod_lt_of_pos a hb
  constructor
  · refine (Int.le_ediv_iff_mul_le hb).2 ?_
    have := Int.mul_le_mul_of_nonneg_left (show 1 ≤ b by omega) (show (0 : Int) ≤ 1000000000 by omega)
    omega
  · by_cases h : a / b ≤ 0
    · omega
    · have := Int.mul_le_mul_of_nonneg_right (show 1 ≤ b by omega) (show 0 ≤ a / b by omega)
      omega
def s64 : List D → Option D := sp2 cInt cInt cInt fun a b => if bigOk a ∧ 0 < b ∧ bigOk b then some (a / b) else none
theorem ok64 : ∀ ds d, s64 ds = some d → PureC Tryz.prog 64 ds d := ok_sp2 fun a b r hr => by
  split at hr
  · rename_i hc
    cases hr
    obtain ⟨ha, hb, hb2⟩ := hc
    have he := down_eq (a := a) hb
    have hd := div_bd ha hb
    obtain ⟨d1, d2⟩ := hd
    have hne : ¬ b = 0 := by omega
    refine pure_of_call (mkCx_ok del_nil 16 kp64 []) Tryz.func64 rfl rfl (Nat.le_of_ble_eq_true rfl) (by kernel_rfl) ?_
    rw [Tryz.results64]
    by_cases h : a.tmod b < 0
    · rw [if_pos h] at he
      have w1 := wrap_small (a.tdiv b) (by omega) (by omega)
      have w2 := wrap_small (a.tdiv b - 1) (by omega) (by omega)
      simp [kp64, hne, h, w1, w2, he, wrap_small (a / b) (by omega) (by omega)]
    · rw [if_neg h] at he
      have w1 := wrap_small (a.tdiv b) (by omega) (by omega)
      simp [kp64, hne, h, w1, he, wrap_small (a / b) (by omega) (by omega)]
  · cases hr
theorem call64 (xs : Array Value) (w : World) : (callFunc 64 xs).run Tryz.prog w = .ok (.enter 64 xs) w := by kernel_rfl
def cSpnP : Cod Spn := ⟨fun s => .dat 2 [[DI s.lo, DI s.hi]] 0 0, fun d => match d with | .dat 2 [[.v (.int .i64 a), .v (.int .i64 b)]] 0 0 => some ⟨a, b⟩ | _ => none, fun d x h => by
  split at h
  · cases h; exact DImp.refl _
  · cases h⟩
theorem cSpnP_enc (s : Spn) : cSpnP.enc s = .dat 2 [[DI s.lo, DI s.hi]] 0 0 := rfl
theorem cSpnP_dec (a b : Int) : cSpnP.dec (.dat 2 [[DI a, DI b]] 0 0) = some ⟨a, b⟩ := rfl
def smlOk (a : Int) : Prop := -200000 ≤ a ∧ a ≤ 200000
instance (a : Int) : Decidable (smlOk a) := inferInstanceAs (Decidable (_ ∧ _))
def spnOk (s : Spn) : Prop := smlOk s.lo ∧ smlOk s.hi
instance (s : Spn) : Decidable (spnOk s) := inferInstanceAs (Decidable (_ ∧ _))
def s86 : List D → Option D := sp4 cSpnP cSpnP cIntP cIntP (cTup2 cInt cInt) fun x y n e => if spnOk x ∧ spnOk y ∧ smlOk n ∧ smlOk e then some (x.lo - y.lo, 1000 * (y.lo - n - e)) else none
theorem ok86 : ∀ ds d, s86 ds = some d → PureC Tryz.prog 86 ds d := ok_sp4 fun x y n e r hr => by
  split at hr
  · rename_i hc
    cases hr
    obtain ⟨⟨⟨a0, a1⟩, ⟨a2, a3⟩⟩, ⟨⟨b0, b1⟩, ⟨b2, b3⟩⟩, ⟨n0, n1⟩, ⟨e0, e1⟩⟩ := hc
    have w1 := wrap_small (x.lo - y.lo) (by omega) (by omega)
    have w2 := wrap_small (y.lo - n) (by omega) (by omega)
    have w3 := wrap_small (y.lo - n - e) (by omega) (by omega)
    have w4 := wrap_small (1000 * (y.lo - n - e)) (by omega) (by omega)
    refine pure_of_call (mkCx_ok del_nil 18 kp86 []) Tryz.func86 rfl rfl (Nat.le_of_ble_eq_true rfl) (by kernel_rfl) ?_
    rw [Tryz.results86]
    simp [kp86, cSpnP_enc, cIntP_enc, w1, w2, w3, w4]
  · cases hr
theorem call86 (xs : Array Value) (w : World) : (callFunc 86 xs).run Tryz.prog w = .ok (.enter 86 xs) w := by kernel_rfl
def s87 : List D → Option D := sp4 cSpnP cSpnP cIntP cIntP (cTup2 cInt cInt) fun y x n e => if spnOk x ∧ spnOk y ∧ smlOk n ∧ smlOk e then some (y.hi - x.hi, 1000 * (n - e - y.hi)) else none
theorem ok87 : ∀ ds d, s87 ds = some d → PureC Tryz.prog 87 ds d := ok_sp4 fun y x n e r hr => by
  split at hr
  · rename_i hc
    cases hr
    obtain ⟨⟨⟨a0, a1⟩, ⟨a2, a3⟩⟩, ⟨⟨b0, b1⟩, ⟨b2, b3⟩⟩, ⟨n0, n1⟩, ⟨e0, e1⟩⟩ := hc
    have w1 := wrap_small (y.hi - x.hi) (by omega) (by omega)
    have w2 := wrap_small (n - e) (by omega) (by omega)
    have w3 := wrap_small (n - e - y.hi) (by omega) (by omega)
    have w4 := wrap_small (1000 * (n - e - y.hi)) (by omega) (by omega)
    refine pure_of_call (mkCx_ok del_nil 18 kp87 []) Tryz.func87 rfl rfl (Nat.le_of_ble_eq_true rfl) (by kernel_rfl) ?_
    rw [Tryz.results87]
    simp [kp87, cSpnP_enc, cIntP_enc, w1, w2, w3, w4]
  · cases hr
theorem call87 (xs : Array Value) (w : World) : (callFunc 87 xs).run Tryz.prog w = .ok (.enter 87 xs) w := by kernel_rfl
def tightV (s : Spn) (b : Int × Int) : Spn :=
  if 0 < b.1 then ⟨s.lo, min s.hi (-b.2 / b.1)⟩ else if b.1 < 0 then ⟨max s.lo (-(-b.2 / -b.1)), s.hi⟩ else if 0 < b.2 then ⟨s.lo, s.lo - 1⟩ else s
structure Bds where
  s : Spn
  x : Spn
  y : Spn
  n : Int
  e : Int
def Bds.least (b : Bds) : Int × Int := (b.x.lo - b.y.lo, 1000 * (b.y.lo - b.n - b.e))
def Bds.most (b : Bds) : Int × Int := (b.y.hi - b.x.hi, 1000 * (b.n - b.e - b.y.hi))
def bigS (s : Spn) : Prop := bigOk s.lo ∧ bigOk s.hi
instance (s : Spn) : Decidable (bigS s) := inferInstanceAs (Decidable (_ ∧ _))
def bdsL (b : Bds) : List (List D) := [[.fn 86 [] [.dat 2 [[DI b.x.lo, DI b.x.hi]] 0 0, .dat 2 [[DI b.y.lo, DI b.y.hi]] 0 0, .dat 1 [[DI b.n]] 0 0, .dat 1 [[DI b.e]] 0 0]], [.fn 87 [] [.dat 2 [[DI b.y.lo, DI b.y.hi]] 0 0, .dat 2 [[DI b.x.lo, DI b.x.hi]] 0 0, .dat 1 [[DI b.n]] 0 0, .dat 1 [[DI b.e]] 0 0]]]
def enc88 (b : Bds) : List X × List Cont × List Nat := ([.loc 1000 0, .d (.sl 1 (bdsL b))], [.cells [.d (DI b.s.lo), .d (DI b.s.hi)]], [])
def bdsGood (b : Bds) : Prop := (0 ≤ b.s.lo ∧ b.s.lo ≤ 1000000000 ∧ bigOk b.s.hi) ∧ spnOk b.x ∧ spnOk b.y ∧ smlOk b.n ∧ smlOk b.e
instance (b : Bds) : Decidable (bdsGood b) := inferInstanceAs (Decidable ((_ ∧ _ ∧ _) ∧ _ ∧ _ ∧ _ ∧ _))
def bdsRes (b : Bds) : Spn := tightV (tightV b.s b.least) b.most
def res88 (b : Bds) : Option (D × List Cont × List Nat) := if bdsGood b then some (.tup [], [.cells [.d (DI (bdsRes b).lo), .d (DI (bdsRes b).hi)]], []) else none
theorem inj88 (a b : Bds) (h : enc88 a = enc88 b) : res88 a = res88 b := by
  obtain ⟨⟨s1, s2⟩, ⟨x1, x2⟩, ⟨y1, y2⟩, n, e⟩ := a
  obtain ⟨⟨s1', s2'⟩, ⟨x1', x2'⟩, ⟨y1', y2'⟩, n', e'⟩ := b
  simp only [enc88, bdsL, Prod.mk.injEq, List.cons.injEq, X.d.injEq, D.sl.injEq, D.fn.injEq, D.dat.injEq, D.v.injEq, Value.int.injEq, Cont.cells.injEq, and_true, true_and] at h
  simp_all
noncomputable def e88 : EffSp := effBy enc88 res88
theorem e88_at (b : Bds) : e88 [.loc 1000 0, .d (.sl 1 (bdsL b))] [.cells [.d (DI b.s.lo), .d (DI b.s.hi)]] [] = res88 b := effBy_at inj88 b rfl
def g88 : List (Nat × (List D → Option D)) := (64, s64) :: (86, s86) :: (87, s87) :: []
theorem dg88 : DelOk Tryz.prog (delOf g88) := del_cons (del_cons (del_cons del_nil call87 ok87) call86 ok86) call64 ok64
@[simp] theorem wrap_two : IntKind.i64.wrap 2 = 2 := wrap_small 2 (by omega) (by omega)
theorem min_if (a b : Int) : (if b < a then b else a) = min a b := by split <;> omega
theorem max_if (a b : Int) : (if a < b then b else a) = max a b := by split <;> omega
theorem tight_bd {s : Spn} {b : Int × Int} (h0 : 0 ≤ s.lo) (h1 : s.lo ≤ 1000000000) (h2 : bigOk s.hi) (hb : bigOk b.1 ∧ bigOk b.2) : 0 ≤ (tightV s b).lo ∧ (tightV s b).lo ≤ 1000000000 ∧ bigOk (tightV s b).hi := by
  obtain ⟨⟨c1, c2⟩, c3, c4⟩ := hb
  obtain ⟨d1, d2⟩ := h2
  unfold tightV
  split
  · rename_i hp
    have := div_bd (a := -b.2) ⟨by omega, by omega⟩ hp
    obtain ⟨e1, e2⟩ := this
    exact ⟨h0, h1, by constructor <;> simp only <;> omega⟩
  · split
    · rename_i hp
      have := div_bd (a := -b.2) (b := -b.1) ⟨by omega, by omega⟩ (by omega)
      obtain ⟨e1, e2⟩ := this
      exact ⟨by simp only; omega, by simp only; omega, d1, d2⟩
    · split
      · exact ⟨h0, h1, by constructor <;> simp only <;> omega⟩
      · exact ⟨h0, h1, d1, d2⟩
set_option maxHeartbeats 4000000 in
theorem oe88 : EffOk1 Tryz.prog 88 e88 := ok_effBy fun b r hr => by
  unfold res88 at hr
  split at hr
  · rename_i hc
    cases hr
    obtain ⟨⟨h0, h1, h2⟩, hx, hy, hn, he⟩ := id hc
    obtain ⟨⟨a0, a1⟩, ⟨a2, a3⟩⟩ := id hx
    obtain ⟨⟨b0, b1⟩, ⟨b2, b3⟩⟩ := id hy
    obtain ⟨n0, n1⟩ := id hn
    obtain ⟨e0, e1⟩ := id he
    have hl : bigOk b.least.1 ∧ bigOk b.least.2 := by unfold Bds.least; refine ⟨⟨?_, ?_⟩, ?_, ?_⟩ <;> simp only <;> omega
    have hm : bigOk b.most.1 ∧ bigOk b.most.2 := by unfold Bds.most; refine ⟨⟨?_, ?_⟩, ?_, ?_⟩ <;> simp only <;> omega
    have hb2 := tight_bd h0 h1 h2 hl
    refine eff_of_call (mkCxE_ok dg88 eff_nil keys_nil (sq := []) (fun _ _ _ h => by cases h) 63 kp88 [] (fun _ => []) (fun _ => 0)) Tryz.func88 rfl rfl (Nat.le_of_ble_eq_true rfl) (by kernel_rfl) (by kernel_rfl) ?_
    rw [Tryz.results88]
    have stepB : ∀ (s : Spn) (b : Int × Int), 0 ≤ s.lo → s.lo ≤ 1000000000 → bigOk s.hi → bigOk b.1 ∧ bigOk b.2 → IntKind.i64.wrap (-b.2) = -b.2 ∧ IntKind.i64.wrap (-b.1) = -b.1 ∧ IntKind.i64.wrap (s.lo - 1) = s.lo - 1 ∧ bigOk (-b.2) ∧ bigOk (-b.1) ∧ (b.1 < 0 → IntKind.i64.wrap (-(-b.2 / -b.1)) = -(-b.2 / -b.1)) := by
      intro s b q0 q1 q2 q3
      obtain ⟨⟨c1, c2⟩, c3, c4⟩ := q3
      refine ⟨wrap_small _ (by omega) (by omega), wrap_small _ (by omega) (by omega), wrap_small _ (by omega) (by omega), ⟨by omega, by omega⟩, ⟨by omega, by omega⟩, fun hneg => ?_⟩
      obtain ⟨e1, e2⟩ := div_bd (a := -b.2) (b := -b.1) ⟨by omega, by omega⟩ (by omega)
      exact wrap_small _ (by omega) (by omega)
    obtain ⟨u1, u2, u3, u4, u5, u6⟩ := stepB b.s b.least h0 h1 h2 hl
    obtain ⟨v1, v2, v3, v4, v5, v6⟩ := stepB (tightV b.s b.least) b.most hb2.1 hb2.2.1 hb2.2.2 hm
    have r86 : s86 [.dat 2 [[DI b.x.lo, DI b.x.hi]] 0 0, .dat 2 [[DI b.y.lo, DI b.y.hi]] 0 0, .dat 1 [[DI b.n]] 0 0, .dat 1 [[DI b.e]] 0 0] = some (.tup [DI b.least.1, DI b.least.2]) := by
      simp only [s86, sp4, cSpnP_dec, cIntP_dec]
      rw [if_pos ⟨hx, hy, hn, he⟩]; rfl
    have r87 : s87 [.dat 2 [[DI b.y.lo, DI b.y.hi]] 0 0, .dat 2 [[DI b.x.lo, DI b.x.hi]] 0 0, .dat 1 [[DI b.n]] 0 0, .dat 1 [[DI b.e]] 0 0] = some (.tup [DI b.most.1, DI b.most.2]) := by
      simp only [s87, sp4, cSpnP_dec, cIntP_dec]
      rw [if_pos ⟨hx, hy, hn, he⟩]; rfl
    simp only [enc88]
    obtain ⟨S, hS⟩ : ∃ S : Nat → Spn, S = fun k => if k = 0 then b.s else if k = 1 then tightV b.s b.least else bdsRes b := ⟨_, rfl⟩
    have S0 : S 0 = b.s := by rw [hS]; rfl
    have S1 : S 1 = tightV b.s b.least := by rw [hS]; rfl
    have S2 : S 2 = bdsRes b := by rw [hS]; rfl
    have hB : bdsL b = [[.fn 86 [] [.dat 2 [[DI b.x.lo, DI b.x.hi]] 0 0, .dat 2 [[DI b.y.lo, DI b.y.hi]] 0 0, .dat 1 [[DI b.n]] 0 0, .dat 1 [[DI b.e]] 0 0]], [.fn 87 [] [.dat 2 [[DI b.y.lo, DI b.y.hi]] 0 0, .dat 2 [[DI b.x.lo, DI b.x.hi]] 0 0, .dat 1 [[DI b.n]] 0 0, .dat 1 [[DI b.e]] 0 0]]] := rfl
    simp [kp88, hB]
    rw [← S0]
    (generalize hLoopQ : Cx.loop _ _ _ = rLoopQ; apply loop_then hLoopQ (fun k => ⟨[(0, .loc 1000 0), (8, .d (.sl 1 (bdsL b))), (9, .d (DI 2)), (10, .d (DI k))], [(1000, [.d (DI (S k).lo), .d (DI (S k).hi)])], [], []⟩) 2 rfl; rotate_left; (show _ < 281474976710656; omega); rfl; rotate_left; all_goals clear hLoopQ)
    · intro j hj
      rcases (by omega : j = 0 ∨ j = 1) with rfl | rfl
      · rw [S0, S1]
        have hd := tight_bd (s := b.s) (b := b.least) h0 h1 h2 hl
        by_cases c1 : 0 < b.least.1
        · have e : tightV b.s b.least = ⟨b.s.lo, min b.s.hi (-b.least.2 / b.least.1)⟩ := if_pos c1
          rw [e] at hd ⊢
          simp [kp88, g88, hB, r86, c1, u1, u2, s64, sp2, u4, hl.1, min_if]
          done
        · have c1' : (0 < b.least.1) = False := eq_false c1
          by_cases c2 : b.least.1 < 0
          · have e : tightV b.s b.least = ⟨max b.s.lo (-(-b.least.2 / -b.least.1)), b.s.hi⟩ := by unfold tightV; rw [if_neg c1, if_pos c2]
            rw [e] at hd ⊢
            have c3 : 0 < -b.least.1 := by omega
            have c7 := u6 c2
            simp only [Int.ediv_neg, Int.neg_neg] at c7
            simp [kp88, g88, hB, r86, c1', c2, u1, u2, s64, sp2, u4, u5, c3, c7, max_if]
            done
          · have c2' : (b.least.1 < 0) = False := eq_false c2
            by_cases c4 : 0 < b.least.2
            · have e : tightV b.s b.least = ⟨b.s.lo, b.s.lo - 1⟩ := by unfold tightV; rw [if_neg c1, if_neg c2, if_pos c4]
              rw [e]
              simp [kp88, g88, hB, r86, c1', c2', c4, u3]
            · have e : tightV b.s b.least = b.s := by unfold tightV; rw [if_neg c1, if_neg c2, if_neg c4]
              have c4' : (0 < b.least.2) = False := eq_false c4
              rw [e]
              simp [kp88, g88, hB, r86, c1', c2', c4']
      · obtain ⟨s1, hs1⟩ : ∃ s1, s1 = tightV b.s b.least := ⟨_, rfl⟩
        have S2' : S 2 = tightV s1 b.most := by rw [S2, hs1]; rfl
        rw [S1, S2', ← hs1]
        rw [← hs1] at hb2 v3
        have hd := tight_bd (s := s1) (b := b.most) hb2.1 hb2.2.1 hb2.2.2 hm
        by_cases c1 : 0 < b.most.1
        · have e : tightV s1 b.most = ⟨s1.lo, min s1.hi (-b.most.2 / b.most.1)⟩ := if_pos c1
          rw [e] at hd ⊢
          simp [kp88, g88, hB, r87, c1, v1, v2, s64, sp2, v4, hm.1, min_if]
          done
        · have c1' : (0 < b.most.1) = False := eq_false c1
          by_cases c2 : b.most.1 < 0
          · have e : tightV s1 b.most = ⟨max s1.lo (-(-b.most.2 / -b.most.1)), s1.hi⟩ := by unfold tightV; rw [if_neg c1, if_pos c2]
            rw [e] at hd ⊢
            have c3 : 0 < -b.most.1 := by omega
            have c7 := v6 c2
            simp only [Int.ediv_neg, Int.neg_neg] at c7
            simp [kp88, g88, hB, r87, c1', c2, v1, v2, s64, sp2, v4, v5, c3, c7, max_if]
            done
          · have c2' : (b.most.1 < 0) = False := eq_false c2
            by_cases c4 : 0 < b.most.2
            · have e : tightV s1 b.most = ⟨s1.lo, s1.lo - 1⟩ := by unfold tightV; rw [if_neg c1, if_neg c2, if_pos c4]
              rw [e]
              simp [kp88, g88, hB, r87, c1', c2', c4, v3]
            · have e : tightV s1 b.most = s1 := by unfold tightV; rw [if_neg c1, if_neg c2, if_neg c4]
              have c4' : (0 < b.most.2) = False := eq_false c4
              rw [e]
              simp [kp88, g88, hB, r87, c1', c2', c4']
    · rw [S2]
      simp [kp88]
  · cases hr
end Go.Proofs.YtkldmnladkcfeaaGreatDoor
namespace Go.Proofs.YtkldmnladkcfeaaGreatDoor
open Go.RowKit
set_option linter.unusedSimpArgs false
set_option linter.unusedVariables false
def kp63 (r : Nat) : List (Nat × Option Nat) := match r with
  | 0 => [(0, none), (1, none), (2, none), (3, none), (4, none), (10, none)]
  | 1 => [(0, none), (1, none), (2, none), (10, none), (11, none)]
  | 2 => [(0, none), (1, none), (2, none), (10, none), (11, none), (25, none), (26, none), (27, none)]
  | 3 => [(0, none), (1, none), (2, none), (10, none), (11, none), (25, none), (26, none), (27, none), (28, none)]
  | 4 => [(0, none), (1, none), (2, none), (10, none), (11, none), (12, none), (13, none), (25, none), (26, none), (27, none)]
  | 5 => [(0, none), (1, none), (2, none), (10, none), (11, none), (12, none), (13, none), (25, none), (26, none), (27, none), (33, none)]
  | 6 => [(0, none), (1, none), (2, none), (10, none), (11, none), (13, none), (14, none), (15, none), (16, none), (25, none), (26, none), (27, none)]
  | 7 => [(0, none), (1, none), (2, none), (10, none), (11, none), (13, none), (14, none), (15, none), (16, none), (17, none), (25, none), (26, none), (27, none)]
  | 8 => [(0, none), (1, none), (2, none), (10, none), (11, none), (17, none), (18, none), (25, none), (26, none), (27, none)]
  | 9 => [(0, none), (1, none), (2, none), (10, none), (11, none), (25, none), (26, none), (27, none)]
  | 10 => [(0, none), (1, none), (2, none), (10, none), (11, none), (25, none), (26, none), (27, none)]
  | 11 => [(10, none)]
  | _ => []
def ptsK (x : Tbl) (l : List Int) (a b : Nat) (s : Spn) : Nat → Spn
  | 0 => s
  | k + 1 => if l.getD k 0 = -1 then ptsK x l a b s k else bdsRes ⟨ptsK x l a b s k, rngV x a k, rngV x b k, l.getD k 0, errV x k⟩
def ptsV (x : Tbl) (l : List Int) (a b : Nat) (lo hi : Int) : Spn := ptsK x l a b ⟨lo, hi⟩ l.length
theorem bds_good {x : Tbl} {l : List Int} (h0 : okR x l) {a b : Nat} (ha : a < x.kinds.length) (hb : b < x.kinds.length) {s : Spn} (h1 : 0 ≤ s.lo ∧ s.lo ≤ 1000000000 ∧ bigOk s.hi) {k : Nat} (hk : k < l.length) : bdsGood ⟨s, rngV x a k, rngV x b k, l.getD k 0, errV x k⟩ := by
  obtain ⟨hT, hll, hlv⟩ := okR_of h0
  have f := fine_of hT
  obtain ⟨_, _, a1, a2, a3⟩ := f.rng ha (show k < x.props.length by omega)
  obtain ⟨_, _, b1, b2, b3⟩ := f.rng hb (show k < x.props.length by omega)
  have e1 := f.err k (by omega)
  have e2 : errV x k = x.props[k].err := by unfold errV; rw [getD_at _ _ _ (by omega)]
  have e3 := hlv k hk
  rw [getD_at _ _ _ hk, e2]
  exact ⟨h1, ⟨⟨by simp only; omega, by simp only; omega⟩, by simp only; omega, by simp only; omega⟩, ⟨⟨by simp only; omega, by simp only; omega⟩, by simp only; omega, by simp only; omega⟩, ⟨by simp only; omega, by simp only; omega⟩, by simp only; omega, by simp only; omega⟩
theorem bds_big {b : Bds} (h : bdsGood b) : (bigOk b.least.1 ∧ bigOk b.least.2) ∧ bigOk b.most.1 ∧ bigOk b.most.2 := by
  obtain ⟨_, ⟨⟨a0, a1⟩, ⟨a2, a3⟩⟩, ⟨⟨b0, b1⟩, ⟨b2, b3⟩⟩, ⟨n0, n1⟩, e0, e1⟩ := h
  refine ⟨?_, ?_⟩
  · unfold Bds.least; refine ⟨⟨?_, ?_⟩, ?_, ?_⟩ <;> simp only <;> omega
  · unfold Bds.most; refine ⟨⟨?_, ?_⟩, ?_, ?_⟩ <;> simp only <;> omega
theorem res_bd {b : Bds} (h : bdsGood b) : 0 ≤ (bdsRes b).lo ∧ (bdsRes b).lo ≤ 1000000000 ∧ bigOk (bdsRes b).hi := by
  obtain ⟨hl, hm⟩ := bds_big h
  obtain ⟨h0, h1, h2⟩ := h.1
  obtain ⟨q0, q1, q2⟩ := tight_bd h0 h1 h2 hl
  exact tight_bd q0 q1 q2 hm
theorem pts_bd {x : Tbl} {l : List Int} (h0 : okR x l) {a b : Nat} (ha : a < x.kinds.length) (hb : b < x.kinds.length) {s : Spn} (h1 : 0 ≤ s.lo ∧ s.lo ≤ 1000000000 ∧ bigOk s.hi) : ∀ k, k ≤ l.length → 0 ≤ (ptsK x l a b s k).lo ∧ (ptsK x l a b s k).lo ≤ 1000000000 ∧ bigOk (ptsK x l a b s k).hi
  | 0, _ => h1
  | k + 1, hk => by
    have ih := pts_bd h0 ha hb h1 k (by omega)
    rw [ptsK]
    split
    · exact ih
    · exact res_bd (bds_good h0 ha hb ih (by omega))
def df63 (r : Nat) : List (Nat × Nat) := if r = 6 then [4, 8, 11, 16, 20, 23, 28, 32].flatMap fun i => [(i, 36), (i, 37), (i, 38)] else []
theorem call88 (xs : Array Value) (w : World) : (callFunc 88 xs).run Tryz.prog w = .ok (.enter 88 xs) w := by kernel_rfl
theorem eff63 : EffOk Tryz.prog (effOf [(88, e88)]) := eff_cons eff_nil call88 oe88
theorem cx63 : CxOk Tryz.prog (mkCxE [] [(88, e88)] 75 kp63 [] df63 (fun _ => 0) [] []) := mkCxE_ok del_nil eff63 keys_nil (sq := []) (fun _ _ _ h => by cases h) 75 kp63 [] df63 (fun _ => 0)
def s63 : List D → Option D := sp5 cSmpP cInt cInt cInt cInt (cAgg rSpn) fun x a b lo hi => if okR x.t x.l ∧ kdOk x.t a ∧ kdOk x.t b ∧ bdsOk lo hi then some (ptsV x.t x.l a.toNat b.toNat lo hi) else none
set_option maxHeartbeats 4000000 in
theorem ok63 : ∀ ds d, s63 ds = some d → PureC Tryz.prog 63 ds d := ok_sp5 fun x a b lo hi r hr => by
  split at hr
  · rename_i hc
    cases hr
    obtain ⟨h0, ⟨ka0, ka1⟩, ⟨kb0, kb1⟩, hbd⟩ := hc
    obtain ⟨A, rfl⟩ : ∃ A : Nat, a = A := ⟨a.toNat, by omega⟩
    obtain ⟨B, rfl⟩ : ∃ B : Nat, b = B := ⟨b.toNat, by omega⟩
    simp only [Int.toNat_natCast]
    obtain ⟨hT, hll, hlv⟩ := okR_of h0
    have f := fine_of hT
    have ha : A < x.t.kinds.length := by omega
    have hb : B < x.t.kinds.length := by omega
    have hp5 := f.p5
    have hs0 : 0 ≤ lo ∧ lo ≤ 1000000000 ∧ bigOk hi := by obtain ⟨q1, q2, q3, q4⟩ := hbd; exact ⟨by omega, by omega, by omega, by omega⟩
    have hbds := pts_bd (s := ⟨lo, hi⟩) h0 ha hb hs0
    refine pure_handD Tryz.func63 rfl rfl (Nat.le_of_ble_eq_true rfl) fun m w a I ha0 => ?_
    refine am_cut cx63 1 _ rfl (by kernel_rfl) (by kernel_rfl) (fun _ _ => rfl) _ _ _ _ I ?_
    simp [cutA, kp63, cSmpP_enc, codeK_some]
    intro g1 a1 w1 I1
    refine wpIn_seq ?_
    refine wpIn_seq ?_
    refine am_code cx63 (by kernel_rfl) (by kernel_rfl) I1 (fun _ _ => rfl) ?_
    simp [kp63, rInt_k, codeK_some]
    intro g2 a2 w2 I2
    refine wpIn_block (loop_hand (fun k a' w' => ∃ g', Inv 75 m (pureD w []) g' ⟨[(0, .d (.dat 4 [[.sl 2 (x.t.props.map rPrp.enc), .sl 2 (x.t.kinds.map rKnd.enc), DI x.t.purity, .sl 1 (x.l.map rInt.enc)]] 0 0)), (1, .d (DI A)), (2, .d (DI B)), (10, .loc 10 0), (11, .loc 11 0), (25, .d (.sl 1 (x.l.map rInt.enc))), (26, .d (DI x.l.length)), (27, .d (DI k))], [(10, [.d (DI 0), .d (DI 0)]), (11, [.d (DI (ptsK x.t x.l A B ⟨lo, hi⟩ k).lo), .d (DI (ptsK x.t x.l A B ⟨lo, hi⟩ k).hi)])], [], []⟩ a' w') x.l.length ?_ ?_ ⟨g2, I2⟩)
    · rintro k hk a3 w3 ⟨g3, I3⟩
      have hkI : (k : Int) < x.l.length := by omega
      have w1 := wrap_small ((k : Int) + 1) (by omega) (by omega)
      refine am_cut cx63 1 _ rfl (by kernel_rfl) (by kernel_rfl) (fun _ _ => rfl) _ _ _ _ I3 ?_
      simp [cutA, kp63, hkI, codeK_some]
      intro g4 a4 w4 I4
      show Code.wpIn _ _ _ (cutB 1 _) _ _ _
      refine wpIn_seq (wpIn_block ?_)
      have hs := hbds k (by omega)
      have hgood := bds_good h0 ha hb hs hk
      have hnx : ptsK x.t x.l A B ⟨lo, hi⟩ (k + 1) = if x.l[k] = -1 then ptsK x.t x.l A B ⟨lo, hi⟩ k else bdsRes ⟨ptsK x.t x.l A B ⟨lo, hi⟩ k, rngV x.t A k, rngV x.t B k, x.l[k], errV x.t k⟩ := by rw [ptsK, getD_at _ _ _ hk]
      rw [getD_at _ _ _ hk] at hgood
      generalize ptsK x.t x.l A B ⟨lo, hi⟩ k = s at *
      generalize ptsK x.t x.l A B ⟨lo, hi⟩ (k + 1) = s' at *
      have fin : ∀ (tp : List (Nat × X)) (g5 : Gh) (a5 : Act) (w5 : World), s' = s → True := fun _ _ _ _ _ => trivial
      by_cases hm : x.l[k] = -1
      · rw [if_pos hm] at hnx
        subst hnx
        refine am_code cx63 (by kernel_rfl) (by kernel_rfl) I4 (fun _ _ => rfl) ?_
        simp [kp63, hk, hkI, hm, codeK_some]
        intro g5 a5 w5 I5
        simp only [AEx.out, Exit.then, Exit.inBlock, if_true]
        refine am_code cx63 (by kernel_rfl) (by kernel_rfl) I5 (fun _ _ => rfl) ?_
        simp [kp63, w1, codeK_some]
        exact fun g6 a6 w6 I6 => ⟨g6, I6⟩
      · rw [if_neg hm] at hnx
        subst hnx
        have hkp : k < x.t.props.length := by omega
        have hkpI : (k : Int) < x.t.props.length := by omega
        obtain ⟨hpa, ea, _⟩ := f.rng ha hkp
        obtain ⟨hpb, eb, _⟩ := f.rng hb hkp
        have hpaI : (k : Int) < x.t.kinds[A].props.length := by omega
        have hpbI : (k : Int) < x.t.kinds[B].props.length := by omega
        have ee : x.t.props[k].err = errV x.t k := by unfold errV; rw [getD_at _ _ _ hkp]
        have hm2 : (x.l[k] == -1) = false := by simpa using hm
        refine am_cut cx63 2 _ rfl (by kernel_rfl) (by kernel_rfl) (fun _ _ => rfl) _ _ _ _ I4 ?_
        simp [cutA, kp63, df63, rKnd_enc, rSpn_enc, rPrp_enc, rKnd_k, rSpn_k, rPrp_k, hk, hkI, hm, hm2, ha, hb, ka1, kb1, hpa, hpb, hpaI, hpbI, hkp, hkpI, ea, eb, ee, codeK_some]
        intro g5 a5 w5 I5
        generalize rngV x.t A k = P at *
        generalize rngV x.t B k = R at *
        generalize errV x.t k = E at *
        generalize x.l[k] = n at *
        obtain ⟨g6, I6⟩ := freeze_at cx63 (b := 13) (t := 13) rfl rfl rfl rfl I5 I5.deferred
        obtain ⟨g7, I7⟩ := freeze_at cx63 (b := 14) (t := 14) rfl rfl rfl rfl I6 I6.deferred
        obtain ⟨g8, I8⟩ := freeze_at cx63 (b := 15) (t := 15) rfl rfl rfl rfl I7 I7.deferred
        obtain ⟨g9, I9⟩ := freeze_at cx63 (b := 16) (t := 16) rfl rfl rfl rfl I8 I8.deferred
        show Code.wpIn _ _ _ (cutB 2 _) _ _ _
        refine am_code cx63 (by kernel_rfl) (by kernel_rfl) I9 (fun _ _ => rfl) ?_
        have he := e88_at ⟨s, P, R, n, E⟩
        unfold res88 at he
        rw [if_pos hgood] at he
        simp only [bdsL] at he
        simp [cutB, kp63, codeK_some, he]
        intro g10 a10 w10 I10
        simp only [AEx.out, Exit.then, Exit.inBlock, if_true]
        refine am_code cx63 (by kernel_rfl) (by kernel_rfl) I10 (fun _ _ => rfl) ?_
        simp [kp63, w1, codeK_some]
        exact fun g11 a11 w11 I11 => ⟨g11, I11⟩
    · rintro a3 w3 ⟨g3, I3⟩
      refine am_code cx63 (by kernel_rfl) (by kernel_rfl) I3 (fun _ _ => rfl) ?_
      simp [kp63, codeK_some]
      intro g4 a4 w4 I4
      simp only [AEx.out, Exit.then, Exit.inBlock, if_true]
      refine am_code cx63 (by kernel_rfl) (by kernel_rfl) I4 (fun _ _ => rfl) ?_
      simp [kp63, codeK_some]
      intro g5 a5 w5 I5
      refine post_ret cx63 I5 (r := [.agg (rSpn.enc (ptsV x.t x.l A B lo hi))]) ?_ rfl
      rw [Tryz.results63]; simp [rSpn_enc, ptsV]
  · cases hr
theorem call63 (xs : Array Value) (w : World) : (callFunc 63 xs).run Tryz.prog w = .ok (.enter 63 xs) w := by kernel_rfl
end Go.Proofs.YtkldmnladkcfeaaGreatDoor
namespace Go.Proofs.YtkldmnladkcfeaaGreatDoor
open Go.RowKit
set_option linter.unusedSimpArgs false
set_option linter.unusedVariables false
def kp21 (r : Nat) : List (Nat × Option Nat) := match r with
  | 0 => [(1, none), (2, none), (3, none), (4, none), (8, none)]
  | 1 => [(2, none), (3, none), (4, none), (8, none), (10, none), (11, none)]
  | 2 => [(2, none), (3, none), (4, none), (8, none), (10, none), (11, none), (19, none)]
  | 3 => [(8, none), (9, none)]
  | 4 => [(2, none), (3, none), (8, none), (10, none), (24, none)]
  | 5 => [(8, none), (9, none)]
  | 6 => [(2, none), (3, none), (8, none), (10, none), (34, none)]
  | 7 => [(8, none), (9, none)]
  | 8 => [(8, none), (12, none)]
  | 9 => [(8, none), (12, none), (47, none)]
  | 10 => [(8, none), (9, none)]
  | 11 => [(8, none), (9, none)]
  | _ => []
def kp23 (r : Nat) : List (Nat × Option Nat) := match r with
  | 0 => [(1, none), (2, none), (3, none)]
  | 1 => [(1, none), (2, none), (3, none), (10, none)]
  | 2 => [(1, none), (2, none), (3, none), (10, none), (24, none)]
  | 3 => [(6, none), (7, none)]
  | 4 => [(1, none), (2, none), (3, none), (28, none)]
  | 5 => [(6, none), (7, none)]
  | 6 => [(1, none), (2, none), (3, none), (37, none)]
  | 7 => [(6, none), (7, none)]
  | 8 => [(1, none), (2, none), (3, none), (11, none)]
  | 9 => [(1, none), (2, none), (3, none), (11, none), (42, none), (43, none), (44, none)]
  | 10 => [(1, none), (2, none), (3, none), (11, none), (42, none), (43, none), (44, none), (45, none)]
  | 11 => [(1, none), (2, none), (3, none), (11, none), (12, none), (13, none), (42, none), (43, none), (44, none)]
  | 12 => [(1, none), (2, none), (3, none), (11, none), (13, none), (14, none), (15, none), (42, none), (43, none), (44, none)]
  | 13 => [(1, none), (2, none), (3, none), (11, none), (13, none), (14, none), (42, none), (43, none), (44, none), (77, none), (78, none), (79, none)]
  | 14 => [(1, none), (2, none), (3, none), (11, none), (13, none), (14, none), (42, none), (43, none), (44, none), (77, none), (78, none), (79, none), (80, none)]
  | 15 => [(1, none), (2, none), (3, none), (11, none), (13, none), (14, none), (17, none), (42, none), (43, none), (44, none), (77, none), (78, none), (79, none)]
  | 16 => [(1, none), (2, none), (3, none), (11, none), (13, none), (14, none), (17, none), (42, none), (43, none), (44, none), (77, none), (78, none), (79, none), (84, none)]
  | 17 => [(1, none), (2, none), (3, none), (11, none), (13, none), (14, none), (42, none), (43, none), (44, none), (77, none), (78, none), (79, none)]
  | 18 => [(1, none), (2, none), (3, none), (11, none), (13, none), (14, none), (42, none), (43, none), (44, none), (77, none), (78, none), (79, none)]
  | 19 => [(1, none), (2, none), (3, none), (11, none), (42, none), (43, none), (44, none)]
  | 20 => [(11, none), (103, none)]
  | 21 => [(6, none), (7, none)]
  | 22 => [(6, none), (7, none)]
  | _ => []
theorem open_zero {x : Tbl} {l : List Int} (h : readE x l = 0) : cOpen.enc (openR x l) = .tup [.dat 4 [[.sl 2 (x.props.map rPrp.enc), .sl 2 (x.kinds.map rKnd.enc), DI x.purity, .sl 1 (l.map rInt.enc)]] 0 0, DI 0] := by
  unfold openR; rw [if_pos h]; rfl
theorem open_err {x : Tbl} {l : List Int} (h : ¬ readE x l = 0) : cOpen.enc (openR x l) = .tup [.v (.pointer none), DI (readE x l)] := by
  unfold openR; rw [if_neg h]; simp only [cOpen, if_neg h]
theorem smp_dec (x : Tbl) (l : List Int) : cSmpP.dec (.dat 4 [[.sl 2 (x.props.map rPrp.enc), .sl 2 (x.kinds.map rKnd.enc), DI x.purity, .sl 1 (l.map rInt.enc)]] 0 0) = some ⟨x, l⟩ := cSmpP_dec ⟨x, l⟩
theorem out2 (lo hi a b : Int) : outB lo hi [a, b] = (!inR a lo hi || !inR b lo hi) := by simp [outB]
def mixP (x : Tbl) (l : List Int) (a b : Int) : Spn × Int :=
  if ¬ twoE x (readE x l) a b = 0 then (⟨0, 0⟩, twoE x (readE x l) a b) else if (ptsV x l a.toNat b.toNat 0 1000).hi < (ptsV x l a.toNat b.toNat 0 1000).lo then (⟨0, 0⟩, 9) else (ptsV x l a.toNat b.toNat 0 1000, 0)
def g21 : List (Nat × (List D → Option D)) := (50, s50) :: (62, s62) :: (63, s63) :: []
theorem dg21 : DelOk Tryz.prog (delOf g21) := del_cons (del_cons (del_cons del_nil call63 ok63) call62 ok62) call50 ok50
def s21 : List D → Option D := sp4 (cAgg rTbl) (cList rInt) cInt cInt (cTup2 (cAgg rSpn) cInt) fun x l a b => if namesOk x then some (mixP x l a b) else none
set_option maxHeartbeats 2000000 in
theorem ok21 : ∀ ds d, s21 ds = some d → PureC Tryz.prog 21 ds d := ok_sp4 fun x l a b r hr => by
  split at hr
  · rename_i hnm
    cases hr
    refine pure_of_call (mkCx_ok dg21 50 kp21 []) Tryz.func21 rfl rfl (Nat.le_of_ble_eq_true rfl) (by kernel_rfl) ?_
    rw [Tryz.results21]
    unfold mixP twoE
    by_cases h1 : readE x l = 0
    · have hO := open_zero h1
      have hR : okR x l := h1
      have f := fine_of (okR_of hR).1
      have hk8 := f.k8
      have w1 := wrap_small ((x.kinds.length : Int) - 1) (by omega) (by omega)
      have hcond : (inR a 0 ((x.kinds.length : Int) - 1) = false ∨ inR b 0 ((x.kinds.length : Int) - 1) = false) ↔ outB 0 ((x.kinds.length : Int) - 1) [a, b] = true := by rw [out2]; simp
      cases h2 : outB 0 ((x.kinds.length : Int) - 1) [a, b]
      · rw [h2] at hcond
        have hc : ¬ (inR a 0 ((x.kinds.length : Int) - 1) = false ∨ inR b 0 ((x.kinds.length : Int) - 1) = false) := fun q => by have := hcond.1 q; simp at this
        by_cases h4 : a = b
        · subst h4
          have hin : inR a 0 ((x.kinds.length : Int) - 1) = true := by cases q : inR a 0 ((x.kinds.length : Int) - 1) with | true => rfl | false => exact absurd (.inl q) hc
          clear hc hcond
          simp [kp21, rTbl_enc, rTbl_dec, rKnd_k, rSpn_enc, g21, s62, s50, two_dec, hnm, hO, h1, w1, h2, hin]
        · have h4' : (a == b) = false := by simpa using h4
          have k1 : kdOk x a := kd_in (by cases q : inR a 0 ((x.kinds.length : Int) - 1) with | true => rfl | false => exact absurd (.inl q) hc)
          have k2 : kdOk x b := kd_in (by cases q : inR b 0 ((x.kinds.length : Int) - 1) with | true => rfl | false => exact absurd (.inr q) hc)
          have k3 : bdsOk 0 1000 := by decide
          generalize hP : ptsV x l a.toNat b.toNat 0 1000 = s
          obtain ⟨u, v⟩ := s
          by_cases h5 : v < u
          · simp [kp21, rTbl_enc, rTbl_dec, rKnd_k, rSpn_enc, g21, s62, s50, s63, smp_dec, two_dec, hnm, hO, h1, w1, h2, hc, hcond, h4, h4', hR, k1, k2, k3, hP, h5]
          · simp [kp21, rTbl_enc, rTbl_dec, rKnd_k, rSpn_enc, g21, s62, s50, s63, smp_dec, two_dec, hnm, hO, h1, w1, h2, hc, hcond, h4, h4', hR, k1, k2, k3, hP, h5]
      · have hc := hcond.2 h2
        simp [kp21, rTbl_enc, rTbl_dec, rKnd_k, rSpn_enc, g21, s62, s50, two_dec, hnm, hO, h1, w1, h2, hc, hcond]
    · have hO := open_err h1
      have h1' : (readE x l == 0) = false := by simpa using h1
      have h1'' : (readE x l != 0) = true := by simpa using h1
      simp [kp21, rTbl_enc, rTbl_dec, rKnd_k, rSpn_enc, g21, s62, hnm, hO, h1, h1', h1'']
  · cases hr
theorem call21 (xs : Array Value) (w : World) : (callFunc 21 xs).run Tryz.prog w = .ok (.enter 21 xs) w := by kernel_rfl
def leastV (m q w : Int) : Int := if 0 < w then min m (q / w + 1) else m
def wdV (x : Tbl) (a p : Nat) : Int := 1000 * ((rngV x a p).hi - (rngV x a p).lo + 2 * errV x p)
def detK (x : Tbl) (a b : Nat) : Nat → Int
  | 0 => 1001
  | p + 1 => leastV (leastV (detK x a b p) (wdV x a p) ((rngV x b p).lo - (rngV x a p).lo)) (wdV x a p) ((rngV x a p).hi - (rngV x b p).hi)
def detP (x : Tbl) (a b : Int) : Int × Int :=
  if ¬ twoE x (chk x).2.2 a b = 0 then (0, twoE x (chk x).2.2 a b) else if 1000 < detK x a.toNat b.toNat x.props.length then (0, 9) else (detK x a.toNat b.toNat x.props.length, 0)
theorem wd_bd {x : Tbl} (f : Fine x) {a p : Nat} (ha : a < x.kinds.length) (hp : p < x.props.length) : 0 ≤ wdV x a p ∧ wdV x a p ≤ 1000000000 := by
  obtain ⟨_, _, a1, a2, a3⟩ := f.rng ha hp
  have e := f.err p hp
  have e2 : errV x p = x.props[p].err := by unfold errV; rw [getD_at _ _ _ hp]
  unfold wdV; omega
theorem least_bd {m q w : Int} (hq : 0 ≤ q) (h0 : 0 ≤ m ∧ m ≤ 1001) : 0 ≤ leastV m q w ∧ leastV m q w ≤ 1001 := by
  unfold leastV
  split
  · rename_i hw
    have : 0 ≤ q / w := Int.ediv_nonneg hq (by omega)
    omega
  · exact h0
theorem det_bd {x : Tbl} (f : Fine x) {a b : Nat} (ha : a < x.kinds.length) : ∀ p, p ≤ x.props.length → 0 ≤ detK x a b p ∧ detK x a b p ≤ 1001
  | 0, _ => ⟨by simp [detK], by simp [detK]⟩
  | p + 1, h => by rw [detK]; exact least_bd (wd_bd f ha (by omega)).1 (least_bd (wd_bd f ha (by omega)).1 (det_bd f ha p (by omega)))
def df23 (r : Nat) : List (Nat × Nat) := if r = 12 then [1, 5, 8, 10, 14, 17].flatMap fun i => [(i, 20), (i, 21)] else []
def g23 : List (Nat × (List D → Option D)) := (16, s16) :: (50, s50) :: (64, s64) :: []
theorem dg23 : DelOk Tryz.prog (delOf g23) := del_cons (del_cons (del_cons del_nil call64 ok64) call50 ok50) call16 ok16
def s23 : List D → Option D := sp3 (cAgg rTbl) cInt cInt (cTup2 cInt cInt) fun x a b => if namesOk x then some (detP x a b) else none
set_option maxHeartbeats 2000000 in
theorem ok23 : ∀ ds d, s23 ds = some d → PureC Tryz.prog 23 ds d := ok_sp3 fun x a b r hr => by
  split at hr
  · rename_i hnm
    cases hr
    refine pure_of_call (mkCxE_ok dg23 eff_nil keys_nil (sq := []) (fun _ _ _ h => by cases h) 105 kp23 [] df23 (fun _ => 0)) Tryz.func23 rfl rfl (Nat.le_of_ble_eq_true rfl) (by kernel_rfl) ?_
    rw [Tryz.results23]
    unfold detP twoE
    by_cases h1 : (chk x).2.2 = 0
    · have f := fine_of h1
      have hk8 := f.k8
      have hp5 := f.p5
      have w1 := wrap_small ((x.kinds.length : Int) - 1) (by omega) (by omega)
      have hcond : (inR a 0 ((x.kinds.length : Int) - 1) = false ∨ inR b 0 ((x.kinds.length : Int) - 1) = false) ↔ outB 0 ((x.kinds.length : Int) - 1) [a, b] = true := by rw [out2]; simp
      cases h2 : outB 0 ((x.kinds.length : Int) - 1) [a, b]
      · rw [h2] at hcond
        have hc : ¬ (inR a 0 ((x.kinds.length : Int) - 1) = false ∨ inR b 0 ((x.kinds.length : Int) - 1) = false) := fun q => by have := hcond.1 q; simp at this
        by_cases h4 : a = b
        · subst h4
          have hin : inR a 0 ((x.kinds.length : Int) - 1) = true := by cases q : inR a 0 ((x.kinds.length : Int) - 1) with | true => rfl | false => exact absurd (.inl q) hc
          clear hc hcond
          simp [kp23, rTbl_enc, rTbl_dec, rKnd_k, g23, s16, s50, two_dec, hnm, h1, w1, h2, hin]
        · have h4' : (a == b) = false := by simpa using h4
          obtain ⟨ka0, ka1⟩ : kdOk x a := kd_in (by cases q : inR a 0 ((x.kinds.length : Int) - 1) with | true => rfl | false => exact absurd (.inl q) hc)
          obtain ⟨kb0, kb1⟩ : kdOk x b := kd_in (by cases q : inR b 0 ((x.kinds.length : Int) - 1) with | true => rfl | false => exact absurd (.inr q) hc)
          obtain ⟨A, rfl⟩ : ∃ A : Nat, a = A := ⟨a.toNat, by omega⟩
          obtain ⟨B, rfl⟩ : ∃ B : Nat, b = B := ⟨b.toNat, by omega⟩
          simp only [Int.toNat_natCast]
          have ha : A < x.kinds.length := by omega
          have hb : B < x.kinds.length := by omega
          have hbd := det_bd (b := B) f ha
          simp [kp23, rTbl_enc, rTbl_dec, rKnd_k, rPrp_k, g23, s16, s50, two_dec, hnm, h1, w1, h2, hc, hcond, h4, h4']
          (generalize hLoopQ : Cx.loop _ _ _ = rLoopQ; apply loop_then hLoopQ (fun k => ⟨[(1, .d (DI A)), (2, .d (DI B)), (3, .loc 3 0), (11, .d (DI (detK x A B k))), (42, .d (.sl 2 (x.props.map rPrp.enc))), (43, .d (DI x.props.length)), (44, .d (DI k))], [(3, [.d (.sl 2 (x.props.map rPrp.enc)), .d (.sl 2 (x.kinds.map rKnd.enc)), .d (DI x.purity)])], [], []⟩) x.props.length rfl; rotate_left; (show _ < 281474976710656; omega); rfl; rotate_left; all_goals clear hLoopQ)
          · intro j hj
            have hjI : (j : Int) < x.props.length := by omega
            have wj := wrap_small ((j : Int) + 1) (by omega) (by omega)
            have hdj := hbd j (by omega)
            obtain ⟨hpa, ea, la0, la1, la2⟩ := f.rng ha hj
            obtain ⟨hpb, eb, lb0, lb1, lb2⟩ := f.rng hb hj
            have hpaI : (j : Int) < x.kinds[A].props.length := by omega
            have hpbI : (j : Int) < x.kinds[B].props.length := by omega
            have he := f.err j hj
            have ee : x.props[j].err = errV x j := by unfold errV; rw [getD_at _ _ _ hj]
            rw [ee] at he
            have u1 := wrap_small ((rngV x B j).lo - (rngV x A j).lo) (by omega) (by omega)
            have u2 := wrap_small ((rngV x A j).hi - (rngV x B j).hi) (by omega) (by omega)
            have u3 := wrap_small ((rngV x A j).hi - (rngV x A j).lo) (by omega) (by omega)
            have u4 := wrap_small (2 * errV x j) (by omega) (by omega)
            have u5 := wrap_small ((rngV x A j).hi - (rngV x A j).lo + 2 * errV x j) (by omega) (by omega)
            have u6 := wrap_small (1000 * ((rngV x A j).hi - (rngV x A j).lo + 2 * errV x j)) (by omega) (by omega)
            simp [kp23, df23, hj, hjI, rPrp_enc, rKnd_enc, rSpn_enc, rPrp_k, rKnd_k, rSpn_k, ka1, kb1, ha, hb, hpa, hpb, hpaI, hpbI, ea, eb, ee, u1, u2]
            have hwd := wd_bd f ha hj
            have u7 : 1000 * ((rngV x A j).hi - (rngV x A j).lo + 2 * errV x j) = wdV x A j := rfl
            have hnx : detK x A B (j + 1) = leastV (leastV (detK x A B j) (wdV x A j) ((rngV x B j).lo - (rngV x A j).lo)) (wdV x A j) ((rngV x A j).hi - (rngV x B j).hi) := rfl
            have b1 : bigOk ((rngV x B j).lo - (rngV x A j).lo) := ⟨by omega, by omega⟩
            have b2 : bigOk ((rngV x A j).hi - (rngV x B j).hi) := ⟨by omega, by omega⟩
            rw [u7] at u6
            generalize rngV x A j = P at *
            generalize rngV x B j = R at *
            generalize errV x j = E at *
            generalize wdV x A j = W at *
            generalize detK x A B (j + 1) = d' at *
            generalize detK x A B j = d at *
            generalize R.lo - P.lo = wa at *
            generalize P.hi - R.hi = wb at *
            have b3 : bigOk W := ⟨by omega, by omega⟩
            obtain ⟨M, hM⟩ : ∃ M : Nat → Int, M = fun k => if k = 0 then d else if k = 1 then leastV d W wa else d' := ⟨_, rfl⟩
            have M0 : M 0 = d := by rw [hM]; rfl
            have M1 : M 1 = leastV d W wa := by rw [hM]; rfl
            have M2 : M 2 = d' := by rw [hM]; rfl
            have hd1 := least_bd (w := wa) hwd.1 hdj
            have step : ∀ (m w : Int), 0 ≤ m ∧ m ≤ 1001 → bigOk w → 0 < w → IntKind.i64.wrap (W / w) = W / w ∧ IntKind.i64.wrap (W / w + 1) = W / w + 1 := by
              intro m w _ _ hw
              obtain ⟨q1, q2⟩ := div_bd b3 hw
              exact ⟨wrap_small _ (by omega) (by omega), wrap_small _ (by omega) (by omega)⟩
            rw [← M0]
            (generalize hLoopQ : Cx.loop _ _ _ = rLoopQ; apply loop_then hLoopQ (fun k => ⟨[(1, .d (DI A)), (2, .d (DI B)), (3, .loc 3 0), (11, .d (DI (M k))), (13, .loc 13 0), (14, .loc 14 0), (42, .d (.sl 2 (x.props.map rPrp.enc))), (43, .d (DI x.props.length)), (44, .d (DI j)), (77, .d (.sl 1 [[DI wa], [DI wb]])), (78, .d (DI 2)), (79, .d (DI k))], [(3, [.d (.sl 2 (x.props.map rPrp.enc)), .d (.sl 2 (x.kinds.map rKnd.enc)), .d (DI x.purity)]), (13, [.d (DS x.props[j].name), .d (DI E)]), (14, [.d (DI P.lo), .d (DI P.hi)])], [], []⟩) 2 rfl; rotate_left; (show _ < 281474976710656; omega); rfl; rotate_left; all_goals clear hLoopQ)
            · intro k hk
              rcases (by omega : k = 0 ∨ k = 1) with rfl | rfl
              · rw [M0, M1]
                unfold leastV
                by_cases hw : 0 < wa
                · obtain ⟨v1, v2⟩ := step d wa hdj b1 hw
                  simp [kp23, g23, s64, hw, u3, u4, u5, u6, u7, b1, b3, v1, v2, min_if]
                · simp [kp23, hw]
              · rw [M1, M2, hnx]
                generalize leastV d W wa = e at *
                unfold leastV
                by_cases hw : 0 < wb
                · obtain ⟨v1, v2⟩ := step e wb hd1 b2 hw
                  simp [kp23, g23, s64, hw, u3, u4, u5, u6, u7, b2, b3, v1, v2, min_if]
                · simp [kp23, hw]
            · rw [M2]
              simp [kp23, wj]
          · have hlast := hbd x.props.length (by omega)
            by_cases h5 : 1000 < detK x A B x.props.length
            · simp [kp23, h5]
            · simp [kp23, h5]
      · have hc := hcond.2 h2
        simp [kp23, rTbl_enc, rTbl_dec, rKnd_k, g23, s16, s50, two_dec, hnm, h1, w1, h2, hc, hcond]
    · have h1' : ((chk x).2.2 == 0) = false := by simpa using h1
      have h1'' : ((chk x).2.2 != 0) = true := by simpa using h1
      simp [kp23, rTbl_enc, rTbl_dec, g23, s16, hnm, h1, h1', h1'']
  · cases hr
theorem call23 (xs : Array Value) (w : World) : (callFunc 23 xs).run Tryz.prog w = .ok (.enter 23 xs) w := by kernel_rfl
end Go.Proofs.YtkldmnladkcfeaaGreatDoor
