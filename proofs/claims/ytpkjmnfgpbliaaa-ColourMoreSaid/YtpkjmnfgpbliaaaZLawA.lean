/-
  Helpers of the laws of the colour chapter. Conditions: none.
-/
import Derived.Test.YtpkjmnfgpbliaaaZBridge
namespace Go.Proofs.Ytpkjmnfgpbliaaa
open Go.RowKit
set_option linter.unusedSimpArgs false
set_option linter.unusedVariables false

def kp33 (r : Nat) : List (Nat × Option Nat) := match r with
  | 0 => [(0, none)]
  | 1 => [(0, none)]
  | _ => []
def kp34 (r : Nat) : List (Nat × Option Nat) := match r with
  | 0 => []
  | 1 => [(0, none)]
  | _ => []
def kp35 (r : Nat) : List (Nat × Option Nat) := match r with
  | 0 => [(0, none), (1, none), (4, none)]
  | 1 => [(4, none)]
  | _ => []
def kp36 (r : Nat) : List (Nat × Option Nat) := match r with
  | 0 => [(1, none), (2, none)]
  | 1 => [(1, none), (2, none), (7, none)]
  | 2 => [(1, none), (2, none), (7, none), (15, none)]
  | 3 => [(7, none)]
  | 4 => [(4, none)]
  | _ => []
def kp37 (r : Nat) : List (Nat × Option Nat) := match r with
  | 0 => [(1, none), (3, none), (4, none), (5, none), (7, none)]
  | 1 => [(10, none)]
  | _ => []
def kp46 (r : Nat) : List (Nat × Option Nat) := match r with
  | 0 => [(1, none), (2, none)]
  | 1 => [(4, none)]
  | _ => []
def kp40 (r : Nat) : List (Nat × Option Nat) := match r with
  | 0 => [(0, none), (1, none)]
  | 1 => [(0, none), (1, none), (7, none)]
  | 2 => [(4, none)]
  | 3 => [(4, none)]
  | _ => []
def s35 : List D → Option D := sp2 cInt cInt (cAgg rSpn) fun a b => some ⟨a, b⟩
theorem ok35 : ∀ ds d, s35 ds = some d → PureC Try.prog 35 ds d := ok_sp2 fun a b r hr => by
  cases hr
  refine pure_of_call (mkCx_ok del_nil 8 kp35 []) Try.func35 rfl rfl (Nat.le_of_ble_eq_true rfl) (by kernel_rfl) ?_
  rw [Try.results35]
  simp [kp35, rSpn_enc]
theorem call35 (xs : Array Value) (w : World) : (callFunc 35 xs).run Try.prog w = .ok (.enter 35 xs) w := by kernel_rfl
def o1 : List (Nat × (List D → Option D)) := (35, s35) :: l12
theorem deo1 : DelOk Try.prog (delOf o1) := del_cons del12 call35 ok35
def white : ByteArray := ⟨#[119, 104, 105, 116, 101]⟩
def red : ByteArray := ⟨#[114, 101, 100]⟩
def black : ByteArray := ⟨#[98, 108, 97, 99, 107]⟩
def shopV : Shp := ⟨[⟨white, ⟨10, 20⟩, [1000, 1000, 1000]⟩, ⟨red, ⟨10, 20⟩, [2, 1000, 50]⟩, ⟨black, ⟨20, 40⟩, [1, 5, 1000]⟩], ⟨100, 200⟩, 50⟩
def batsV : List Bat := [⟨2, 2000⟩, ⟨0, 2000⟩, ⟨1, 2000⟩]
def s33 : List D → Option D := sp0 (cAgg rShp) (some shopV)
theorem ok33 : ∀ ds d, s33 ds = some d → PureC Try.prog 33 ds d := ok_sp0 fun r hr => by
  cases hr
  refine pure_of_call (mkCx_ok deo1 13 kp33 []) Try.func33 rfl rfl (Nat.le_of_ble_eq_true rfl) (by kernel_rfl) ?_
  rw [Try.results33]
  simp [kp33, o1, s35, rSpn_enc, shopV, rShp_enc, rCol_enc, white, red, black]
def s34 : List D → Option D := sp0 (cList rBat) (some batsV)
theorem ok34 : ∀ ds d, s34 ds = some d → PureC Try.prog 34 ds d := ok_sp0 fun r hr => by
  cases hr
  refine pure_of_call (mkCx_ok deo1 5 kp34 []) Try.func34 rfl rfl (Nat.le_of_ble_eq_true rfl) (by kernel_rfl) ?_
  rw [Try.results34]
  simp [kp34, batsV, rBat_enc, rBat_k]
def validE (s : Shp) (l : List Bat) : Int := if (chk s).2.2 = 0 then batsE s l else (chk s).2.2
def s36 : List D → Option D := sp2 (cAgg rShp) (cList rBat) cInt fun s l => some (validE s l)
theorem ok36 : ∀ ds d, s36 ds = some d → PureC Try.prog 36 ds d := ok_sp2 fun s l r hr => by
  cases hr
  refine pure_of_call (mkCx_ok deo1 20 kp36 []) Try.func36 rfl rfl (Nat.le_of_ble_eq_true rfl) (by kernel_rfl) ?_
  rw [Try.results36]
  unfold validE
  by_cases h1 : (chk s).2.2 = 0
  · have hlen : s.cols.length < 1000000 := by have := (good_of_chk h1).n1; omega
    simp [kp36, o1, l12, l11, l10, l9, l8, l7, l6, l5, l4, s16, s73, rShp_enc, rShp_dec, rBat_k, rBat_decL, h1, hlen]
  · have h1' : ((chk s).2.2 == 0) = false := by simpa using h1
    simp [kp36, o1, l12, l11, l10, l9, l8, l7, l6, l5, l4, s16, s73, rShp_enc, rShp_dec, rBat_k, rBat_decL, h1, h1']
def amongV (s : Spn) (n : Int) : Int := s.lo + n % (s.hi - s.lo + 1)
def s46 : List D → Option D := sp2 (cAgg rSpn) cInt cInt fun s n => if 0 ≤ s.lo ∧ s.lo ≤ s.hi ∧ s.hi ≤ 1000 ∧ 0 ≤ n ∧ n ≤ 1000000 then some (amongV s n) else none
theorem among_bd {s : Spn} {n : Int} (h1 : s.lo ≤ s.hi) : s.lo ≤ amongV s n ∧ amongV s n ≤ s.hi := by
  unfold amongV
  have a := Int.emod_nonneg n (show s.hi - s.lo + 1 ≠ 0 by omega)
  have b := Int.emod_lt_of_pos n (show 0 < s.hi - s.lo + 1 by omega)
  omega
theorem ok46 : ∀ ds d, s46 ds = some d → PureC Try.prog 46 ds d := ok_sp2 fun s n r hr => by
  split at hr
  · rename_i hc
    cases hr
    obtain ⟨h0, h1, h2, h3, h4⟩ := hc
    have hb := among_bd (n := n) h1
    have w1 := wrap_small (s.hi - s.lo) (by omega) (by omega)
    have w2 := wrap_small (s.hi - s.lo + 1) (by omega) (by omega)
    have e1 : n.tmod (s.hi - s.lo + 1) = n % (s.hi - s.lo + 1) := Int.tmod_eq_emod_of_nonneg h3
    have a := Int.emod_nonneg n (show s.hi - s.lo + 1 ≠ 0 by omega)
    have b := Int.emod_lt_of_pos n (show 0 < s.hi - s.lo + 1 by omega)
    have w3 := wrap_small (n % (s.hi - s.lo + 1)) (by omega) (by omega)
    have w4 := wrap_small (s.lo + n % (s.hi - s.lo + 1)) (by omega) (by omega)
    have hne : ¬ s.hi - s.lo + 1 = 0 := by omega
    unfold amongV
    refine pure_of_call (mkCx_ok deo1 16 kp46 []) Try.func46 rfl rfl (Nat.le_of_ble_eq_true rfl) (by kernel_rfl) ?_
    rw [Try.results46]
    simp [kp46, rSpn_enc, w1, w2, e1, w3, w4, hne]
  · cases hr
def byteOk (l : List Int) : Prop := ∀ x ∈ l, 0 ≤ x ∧ x ≤ 255
instance (l : List Int) : Decidable (byteOk l) := inferInstanceAs (Decidable (∀ x ∈ l, _))
def turnV (l : List Int) (n : Int) : Int := l.getD (n.toNat % l.length) 0
theorem turn_bd {l : List Int} (h : byteOk l) (n : Int) : 0 ≤ turnV l n ∧ turnV l n ≤ 255 := by
  unfold turnV
  by_cases hl : l.length = 0
  · have : l = [] := List.length_eq_zero_iff.1 hl
    subst this; simp
  · have hi := Nat.mod_lt n.toNat (show 0 < l.length by omega)
    rw [getD_at _ _ _ hi]
    exact h _ (List.getElem_mem hi)
def s40 : List D → Option D := sp2 (cList (rK .u8)) cInt cInt fun l n => if byteOk l ∧ 0 ≤ n ∧ n ≤ 1000000 then some (turnV l n) else none
theorem ok40 : ∀ ds d, s40 ds = some d → PureC Try.prog 40 ds d := ok_sp2 fun l n r hr => by
  split at hr
  · rename_i hc
    cases hr
    obtain ⟨hb, h0, h1⟩ := hc
    obtain ⟨N, rfl⟩ : ∃ B : Nat, n = B := ⟨n.toNat, by omega⟩
    refine pure_of_call (mkCx_ok deo1 16 kp40 []) Try.func40 rfl rfl (Nat.le_of_ble_eq_true rfl) (by kernel_rfl) ?_
    rw [Try.results40]
    by_cases hl : l.length = 0
    · have : l = [] := List.length_eq_zero_iff.1 hl
      subst this
      simp [kp40, turnV]
    · have hl' : ((l.length : Int) == 0) = false := by rw [beq_eq_false_iff_ne]; omega
      have hl'' : ¬ (l.length : Int) = 0 := by omega
      have hne : ¬ l = [] := fun h => by rw [h] at hl; exact hl rfl
      have hi := Nat.mod_lt N (show 0 < l.length by omega)
      have hle := Nat.mod_le N l.length
      have hv : turnV l N = l[N % l.length] := by unfold turnV; rw [Int.toNat_natCast, getD_at _ _ _ hi]
      have hbd := turn_bd hb N
      rw [hv] at hbd
      have e1 : (N : Int).tmod l.length = ((N % l.length : Nat) : Int) := by
        rw [Int.tmod_eq_emod_of_nonneg (by omega)]; push_cast; rfl
      rw [hv]
      generalize hQ : N % l.length = Q at *
      have w1 := wrap_small (Q : Int) (by omega) (by omega)
      have w2 := wrap_small l[Q] (by omega) (by omega)
      simp [kp40, hl', hl'', hne, e1, w1, w2, hi]
  · cases hr
end Go.Proofs.Ytpkjmnfgpbliaaa
namespace Go.Proofs.Ytpkjmnfgpbliaaa
open Go.RowKit
set_option linter.unusedSimpArgs false
set_option linter.unusedVariables false

def kp38 (r : Nat) : List (Nat × Option Nat) := match r with
  | 0 => [(1, none), (2, none), (4, none), (7, none)]
  | 1 => [(2, none), (4, none), (7, none), (9, none)]
  | 2 => [(2, none), (4, none), (7, none), (9, none), (10, none)]
  | 3 => [(2, none), (4, none), (7, none), (9, none), (10, none), (23, none)]
  | 4 => [(2, none), (4, none), (7, none), (9, none), (10, none)]
  | 5 => [(2, none), (4, none), (7, none), (9, none), (10, none)]
  | 6 => [(8, none)]
  | _ => []
def kp41 (r : Nat) : List (Nat × Option Nat) := match r with
  | 0 => [(0, none), (1, none)]
  | 1 => [(0, none), (1, none), (5, some 1)]
  | 2 => [(0, none), (1, none), (5, some 1), (6, none)]
  | 3 => [(0, none), (1, none), (5, some 1), (6, none), (10, none)]
  | 4 => [(0, none), (1, none), (5, some 1), (6, none)]
  | 5 => [(0, none), (1, none), (5, some 1), (6, none), (7, none)]
  | 6 => [(0, none), (1, none), (5, some 1), (6, none)]
  | 7 => [(4, some 1)]
  | _ => []
/-- What shows of so much that is in the machine. -/
def shownV (s : Shp) (bf : Nat) (b : Bat) (much : Int) (r : Nat) : Bool := !decide ((bf : Int) = b.c) && decide (b.g * (s.cols.getD bf default).shows.getD b.c.toNat 0 * 1000 ^ r < 1000 * much)
def s37 : List D → Option D := sp5 (cAgg rShp) cInt (cAgg rBat) cInt cInt cBool fun s bf b much r => if canOk s bf b ∧ (0 ≤ much ∧ much ≤ 1000000000000) ∧ 0 ≤ r ∧ r ≤ 3 then some (shownV s bf.toNat b much r.toNat) else none
theorem ok37 : ∀ ds d, s37 ds = some d → PureC Try.prog 37 ds d := ok_sp5 fun s bf b much r res hr => by
  split at hr
  · rename_i hc
    cases hr
    obtain ⟨⟨hc1, hc2, hb0, hb1⟩, ⟨hm0, hm1⟩, hr0, hr1⟩ := hc
    have hg := good_of_chk hc1
    obtain ⟨⟨hk0, hk1⟩, hg0, hg1⟩ := okBat_of hc2
    obtain ⟨B, rfl⟩ : ∃ B : Nat, bf = B := ⟨bf.toNat, by omega⟩
    obtain ⟨R, rfl⟩ : ∃ B : Nat, r = B := ⟨r.toNat, by omega⟩
    obtain ⟨C, hC⟩ : ∃ B : Nat, b.c = B := ⟨b.c.toNat, by omega⟩
    have hB : B < s.cols.length := by omega
    have hR : R ≤ 3 := by omega
    have hCn : C < s.cols.length := by omega
    have hsv := hg.sv B C hB hCn
    have hsh := hg.sh B hB
    rw [getD_at _ _ _ hB] at hsv hsh
    have hCl : C < s.cols[B].shows.length := by omega
    rw [getD_at _ _ _ hCl] at hsv
    obtain ⟨q1, q2, q3⟩ := powR_eq 1000 (by omega) (by omega) R hR
    have w1 := wrap_small (1000 * much) (by omega) (by omega)
    have m2 : 0 ≤ b.g * s.cols[B].shows[C] ∧ b.g * s.cols[B].shows[C] ≤ 100000 * 1000 := ⟨Int.mul_nonneg (by omega) hsv.1, Int.mul_le_mul hg1 hsv.2 hsv.1 (by omega)⟩
    have w3 := wrap_small _ (show -9223372036854775808 ≤ b.g * s.cols[B].shows[C] by omega) (by omega)
    have m3 : 0 ≤ b.g * s.cols[B].shows[C] * 1000 ^ R ∧ b.g * s.cols[B].shows[C] * 1000 ^ R ≤ 100000000 * 1000000000 := ⟨Int.mul_nonneg (by omega) q2, Int.mul_le_mul m2.2 q3 q2 (by omega)⟩
    have w4 := wrap_small _ (show -9223372036854775808 ≤ b.g * s.cols[B].shows[C] * 1000 ^ R by omega) (by omega)
    have e : shownV s (B : Int).toNat b much (R : Int).toNat = (!decide ((B : Int) = b.c) && decide (b.g * s.cols[B].shows[C] * 1000 ^ R < 1000 * much)) := by
      unfold shownV
      simp only [Int.toNat_natCast, hC, getD_at _ _ _ hB, getD_at _ _ _ hCl]
    have hb9 : (R : Int) < 100 := by omega
    rw [e]
    refine pure_of_call (mkCx_ok deo1 36 kp37 []) Try.func37 rfl rfl (Nat.le_of_ble_eq_true rfl) (by kernel_rfl) ?_
    rw [Try.results37]
    rw [cAgg_enc, cAgg_enc, rShp_enc, rBat_enc, hC]
    cases hne : ((B : Int) != (C : Int))
    · have : (B : Int) = C := by simpa using hne
      have : B = C := by omega
      simp [kp37, hB, rCol_enc, hne, this, hCn]
    · have : ¬ (B : Int) = C := by simpa using hne
      have : ¬ B = C := by omega
      simp [kp37, hB, hCl, rCol_enc, hne, o1, l12, l11, l10, l9, l8, l7, l6, l5, l4, l3, l2, l1, s39, hb9, w1, w3, w4, q1, this]
      intro _; omega
  · cases hr
theorem call46 (xs : Array Value) (w : World) : (callFunc 46 xs).run Try.prog w = .ok (.enter 46 xs) w := by kernel_rfl
theorem call40 (xs : Array Value) (w : World) : (callFunc 40 xs).run Try.prog w = .ok (.enter 40 xs) w := by kernel_rfl
def o2 : List (Nat × (List D → Option D)) := (46, s46) :: (40, s40) :: o1
theorem deo2 : DelOk Try.prog (delOf o2) := del_cons (del_cons deo1 call40 ok40) call46 ok46
/-- A truth of a change. -/
structure Sty where
  before : Int
  stay : Int
  k0 : Int
  k1 : Int
  k2 : Int
  rinses : Int
def rSty : Row Sty := ⟨6, fun x => [.v (.int .u8 x.before), .v (.int .u16 x.stay), .v (.int .u16 x.k0), .v (.int .u16 x.k1), .v (.int .u16 x.k2), .v (.int .u8 x.rinses)], fun d => match d with
  | [.v (.int .u8 a), .v (.int .u16 b), .v (.int .u16 c), .v (.int .u16 e), .v (.int .u16 f), .v (.int .u8 g)] => some ⟨a, b, c, e, f, g⟩ | _ => none, fun _ => rfl, fun d x h => by
  split at h
  · cases h; exact LImp.refl _
  · cases h⟩
theorem rSty_enc (x : Sty) : rSty.enc x = [.v (.int .u8 x.before), .v (.int .u16 x.stay), .v (.int .u16 x.k0), .v (.int .u16 x.k1), .v (.int .u16 x.k2), .v (.int .u8 x.rinses)] := rfl
def styOk (x : Sty) : Prop := (0 ≤ x.before ∧ x.before ≤ 255) ∧ (0 ≤ x.stay ∧ x.stay ≤ 65535) ∧ (0 ≤ x.k0 ∧ x.k0 ≤ 65535) ∧ (0 ≤ x.k1 ∧ x.k1 ≤ 65535) ∧ (0 ≤ x.k2 ∧ x.k2 ≤ 65535) ∧ 0 ≤ x.rinses ∧ x.rinses ≤ 255
instance (x : Sty) : Decidable (styOk x) := inferInstanceAs (Decidable (_ ∧ _))
def keepOf (x : Sty) (i : Nat) : Int := if i = 0 then x.k0 else if i = 1 then x.k1 else x.k2
/-- What is in the machine in a truth, after so many rinses. -/
def leftV (s : Shp) (bf : Nat) (x : Sty) : Nat → Int
  | 0 => amongV (s.cols.getD bf default).stay x.stay
  | k + 1 => leftV s bf x k * amongV s.keep (keepOf x k)
theorem leftV_bd {s : Shp} (hg : Good s) {bf : Nat} (hb : bf < s.cols.length) (x : Sty) : ∀ k, 0 ≤ leftV s bf x k ∧ leftV s bf x k ≤ 1000 * 1000 ^ k
  | 0 => by
    have h := hg.st bf hb
    have := among_bd (s := (s.cols.getD bf default).stay) (n := x.stay) h.2.1
    rw [leftV]
    have e : (1000 : Int) * 1000 ^ 0 = 1000 := rfl
    omega
  | k + 1 => by
    have ih := leftV_bd hg hb x k
    have k0 := hg.k0
    have k2 := hg.k2
    have := among_bd (s := s.keep) (n := keepOf x k) hg.k1
    rw [leftV, Int.pow_succ, ← Int.mul_assoc]
    exact ⟨Int.mul_nonneg ih.1 (by omega), Int.mul_le_mul ih.2 (by omega) (by omega) (by omega)⟩
def s38 : List D → Option D := sp4 (cAgg rShp) cInt cInt (cAgg rSty) cInt fun s bf r x => if ((chk s).2.2 = 0 ∧ 0 ≤ bf ∧ bf < s.cols.length) ∧ (0 ≤ r ∧ r ≤ 3) ∧ styOk x then some (leftV s bf.toNat x r.toNat) else none
theorem ok38 : ∀ ds d, s38 ds = some d → PureC Try.prog 38 ds d := ok_sp4 fun s bf r x res hr => by
  split at hr
  · rename_i hc
    cases hr
    obtain ⟨⟨hc1, hb0, hb1⟩, ⟨hr0, hr1⟩, hx⟩ := hc
    have hg := good_of_chk hc1
    obtain ⟨B, rfl⟩ : ∃ B : Nat, bf = B := ⟨bf.toNat, by omega⟩
    obtain ⟨R, rfl⟩ : ∃ B : Nat, r = B := ⟨r.toNat, by omega⟩
    have hB : B < s.cols.length := by omega
    have hst := hg.st B hB
    have hl0 : leftV s B x 0 = amongV s.cols[B].stay x.stay := by rw [leftV, getD_at _ _ _ hB]
    rw [getD_at _ _ _ hB] at hst
    obtain ⟨_, ⟨x1, x2⟩, ⟨x3, x4⟩, ⟨x5, x6⟩, ⟨x7, x8⟩, _⟩ := hx
    have k0 := hg.k0
    have k1 := hg.k1
    have k2 := hg.k2
    have w0 := wrap_small x.stay (by omega) (by omega)
    have x2' : x.stay ≤ 1000000 := by omega
    refine pure_of_call (mkCx_ok deo2 37 kp38 []) Try.func38 rfl rfl (Nat.le_of_ble_eq_true rfl) (by kernel_rfl) ?_
    rw [Try.results38]
    simp only [Int.toNat_natCast]
    simp [kp38, rShp_enc, rCol_enc, rSty_enc, rSpn_dec, o2, s46, hB, w0, hst, x1, x2']
    rw [show amongV ⟨s.cols[B].stay.lo, s.cols[B].stay.hi⟩ x.stay = leftV s B x 0 from hl0.symm]
    (generalize hLoopQ : Cx.loop _ _ _ = rLoopQ; apply loop_then hLoopQ (fun k => ⟨[(2, .d (DI R)), (4, .loc 4 0), (7, .loc 7 0), (9, .d (DI (leftV s B x k))), (10, .d (DI k))], [(4, [.d (.sl 4 (s.cols.map rCol.enc)), .d (DI s.keep.lo), .d (DI s.keep.hi), .d (DI s.rinse)]), (7, [.d (.v (.int .u8 x.before)), .d (.v (.int .u16 x.stay)), .d (.v (.int .u16 x.k0)), .d (.v (.int .u16 x.k1)), .d (.v (.int .u16 x.k2)), .d (.v (.int .u8 x.rinses))])], []⟩) R rfl; rotate_left; (show _ < 281474976710656; omega); rfl; rotate_left; all_goals clear hLoopQ)
    · intro j hj
      have e1 := wrap_small ((j : Int) + 1) (by omega) (by omega)
      have hbj := leftV_bd hg hB x (j + 1)
      have hp : (1000 : Int) * 1000 ^ (j + 1) ≤ 1000 * 1000000000 := by
        have := (powR_eq 1000 (by omega) (by omega) (j + 1) (by omega)).2.2
        omega
      have hl := wrap_small (leftV s B x (j + 1)) (by omega) (by omega)
      have hs : leftV s B x (j + 1) = leftV s B x j * amongV ⟨s.keep.lo, s.keep.hi⟩ (keepOf x j) := rfl
      rw [hs] at hl
      simp only [hs]
      generalize leftV s B x j = V at *
      have h3 : j = 0 ∨ j = 1 ∨ j = 2 := by omega
      rcases h3 with rfl | rfl | rfl
      · have wk := wrap_small x.k0 (by omega) (by omega)
        have x4' : x.k0 ≤ 1000000 := by omega
        have hj1 : (0 : Int) < R := by omega
        simp [keepOf] at hl
        simp [kp38, rSpn_dec, o2, s46, hj, hj1, e1, wk, k0, k1, k2, x3, x4', hl, keepOf]
      · have wk := wrap_small x.k1 (by omega) (by omega)
        have x4' : x.k1 ≤ 1000000 := by omega
        have hj1 : (1 : Int) < R := by omega
        simp [keepOf] at hl e1
        simp [kp38, rSpn_dec, o2, s46, hj, hj1, e1, wk, k0, k1, k2, x5, x4', hl, keepOf]
      · have wk := wrap_small x.k2 (by omega) (by omega)
        have x4' : x.k2 ≤ 1000000 := by omega
        have hj1 : (2 : Int) < R := by omega
        simp [keepOf] at hl e1
        simp [kp38, rSpn_dec, o2, s46, hj, hj1, e1, wk, k0, k1, k2, x7, x4', hl, keepOf]
    · simp [kp38]
  · cases hr
/-- Any order, by turns. -/
def anyO (x : List Int) : Nat → List Int
  | 0 => []
  | i + 1 => (anyO x i).take ((turnV x i).toNat % (i + 1)) ++ [(i : Int)] ++ (anyO x i).drop ((turnV x i).toNat % (i + 1))
theorem anyO_len (x : List Int) : ∀ i, (anyO x i).length = i
  | 0 => rfl
  | i + 1 => by
    have ih := anyO_len x i
    simp only [anyO, List.length_append, List.length_take, List.length_drop, List.length_singleton, ih]
    have := Nat.mod_lt (turnV x i).toNat (show 0 < i + 1 by omega)
    omega
theorem anyO_perm (x : List Int) : ∀ i, (anyO x i).Perm ((List.range i).map fun k : Nat => (k : Int))
  | 0 => by simp [anyO]
  | i + 1 => by
    have ih := anyO_perm x i
    rw [anyO, List.range_succ, List.map_append]
    generalize (turnV x i).toNat % (i + 1) = a
    have h1 : ((anyO x i).take a ++ [(i : Int)] ++ (anyO x i).drop a).Perm ((i : Int) :: (anyO x i)) := by
      rw [List.append_assoc, List.singleton_append]
      refine List.perm_middle.trans ?_
      rw [List.take_append_drop]
    refine h1.trans ?_
    exact (List.Perm.cons _ ih).trans (List.perm_append_singleton _ _).symm
def s41 : List D → Option D := sp2 cInt (cList (rK .u8)) (cList rInt) fun n x => if byteOk x ∧ 0 ≤ n ∧ n ≤ 1000 then some (anyO x n.toNat) else none
theorem ok41 : ∀ ds d, s41 ds = some d → PureC Try.prog 41 ds d := ok_sp2 fun n x r hr => by
  split at hr
  · rename_i hc
    cases hr
    obtain ⟨hb, h0, h1⟩ := hc
    obtain ⟨N, rfl⟩ : ∃ B : Nat, n = B := ⟨n.toNat, by omega⟩
    refine pure_of_call (mkCx_ok deo2 32 kp41 []) Try.func41 rfl rfl (Nat.le_of_ble_eq_true rfl) (by kernel_rfl) ?_
    rw [Try.results41]
    simp only [Int.toNat_natCast]
    simp [kp41]
    (generalize hLoopQ : Cx.loop _ _ _ = rLoopQ; apply loop_then hLoopQ (fun k => ⟨[(0, .d (DI N)), (1, .d (.sl 1 (x.map (rK .u8).enc))), (5, .sl 1 ((anyO x k).map rInt.enc) (.tok 5)), (6, .d (DI k))], [], [5]⟩) N rfl; rotate_left; (show _ < 281474976710656; omega); rfl; rotate_left; all_goals clear hLoopQ)
    · intro j hj
      have e1 := wrap_small ((j : Int) + 1) (by omega) (by omega)
      have hj3 : (j : Int) ≤ 1000000 := by omega
      have ht := turn_bd hb j
      obtain ⟨T, hT⟩ : ∃ B : Nat, turnV x j = B := ⟨(turnV x j).toNat, by omega⟩
      have hlen := anyO_len x j
      have hs : anyO x (j + 1) = (anyO x j).take (T % (j + 1)) ++ [(j : Int)] ++ (anyO x j).drop (T % (j + 1)) := by
        rw [anyO, hT, Int.toNat_natCast]
      have hm : (T : Int).tmod ((j : Int) + 1) = ((T % (j + 1) : Nat) : Int) := by
        rw [Int.tmod_eq_emod_of_nonneg (by omega)]; push_cast; rfl
      have hA := Nat.mod_lt T (show 0 < j + 1 by omega)
      simp only [hs]
      generalize T % (j + 1) = A at *
      have w2 := wrap_small (A : Int) (by omega) (by omega)
      have hne : ¬ (j : Int) + 1 = 0 := by omega
      have hA2 : A ≤ j := by omega
      have b1 : A ≤ 140737488355328 := by omega
      have b2 : A * 8 ≤ 140737488355328 := by omega
      have b3 : A ≤ 140737488355327 := by omega
      have b4 : (A + 1) * 8 ≤ 140737488355328 := by omega
      have b5 : A + 1 + (j - A) ≤ 140737488355328 := by omega
      have b6 : (A + 1 + (j - A)) * 8 ≤ 140737488355328 := by omega
      have a1 : List.take (j - A) (List.drop A ((anyO x j).map rInt.enc)) = List.drop A ((anyO x j).map rInt.enc) := List.take_of_length_le (by simp [hlen])
      simp [kp41, o2, s40, hj, e1, hj3, hb, hT, hm, w2, hne, hlen, hA2, b1, b2, b3, b4, b5, b6, a1, List.map_take, List.map_drop]
    · simp [kp41]
  · cases hr
end Go.Proofs.Ytpkjmnfgpbliaaa
