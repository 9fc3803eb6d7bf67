/-
  Reference functions of the colour chapter: what they come to. Conditions: none.
-/
import Derived.Test.YtpkjmnfgpbliaaaZTys
import Derived.Test.YtpkjmnfgpbliaaaZColA
import Derived.Test.YtpkjmnfgpbliaaaZColB
import Derived.Test.YtpkjmnfgpbliaaaZSorted
namespace Go.Proofs.Ytpkjmnfgpbliaaa
open Go.RowKit
set_option linter.unusedSimpArgs false
set_option linter.unusedVariables false

def fuel : Nat := 281474976710656
def mkCx (l : List (Nat × (List D → Option D))) (N : Nat) (kp : Nat → List (Nat × Option Nat)) (kb : List (Nat × Nat × Nat)) : Cx := { Γ := tys, eqs := eqsC, Δ := delOf l, N := N, F := fuel, kp := kp, kb := kb }
attribute [simp] mkCx eqsC
theorem mkCx_ok {l : List (Nat × (List D → Option D))} (h : DelOk Try.prog (delOf l)) (N : Nat) (kp : Nat → List (Nat × Option Nat)) (kb : List (Nat × Nat × Nat)) : CxOk Try.prog (mkCx l N kp kb) :=
  ⟨tys_ok, eqs_ok, h, by kernel_rfl⟩
theorem wrap_small (x : Int) (h1 : -9223372036854775808 ≤ x) (h2 : x ≤ 9223372036854775807) : IntKind.i64.wrap x = x := IntWalk.i64_in _ ⟨h1, h2⟩

def kp51 (r : Nat) : List (Nat × Option Nat) := match r with
  | 0 => [(0, none), (1, none), (2, none)]
  | 1 => [(6, none)]
  | _ => []
def kp80 (r : Nat) : List (Nat × Option Nat) := match r with
  | 0 => [(0, none), (1, none), (2, none)]
  | 1 => [(6, none)]
  | _ => []
def kp52 (r : Nat) : List (Nat × Option Nat) := match r with
  | 0 => [(1, none), (2, none), (3, none)]
  | 1 => [(3, none), (20, none)]
  | 2 => [(6, none)]
  | 3 => [(25, none)]
  | 4 => [(6, none)]
  | 5 => [(6, none)]
  | _ => []
def kp39 (r : Nat) : List (Nat × Option Nat) := match r with
  | 0 => [(0, none), (1, none)]
  | 1 => [(0, none), (1, none), (5, none)]
  | 2 => [(0, none), (1, none), (5, none), (6, none)]
  | 3 => [(0, none), (1, none), (5, none), (6, none), (9, none)]
  | 4 => [(0, none), (1, none), (5, none), (6, none)]
  | 5 => [(0, none), (1, none), (5, none), (6, none)]
  | 6 => [(4, none)]
  | _ => []
def inR (n lo hi : Int) : Bool := decide (lo ≤ n) && decide (n ≤ hi)
def s51 : List D → Option D := sp3 cInt cInt cInt cBool fun n lo hi => some (inR n lo hi)
theorem ok51 : ∀ ds d, s51 ds = some d → PureC Try.prog 51 ds d := ok_sp3 fun n lo hi r hr => by
  cases hr
  refine pure_of_call (mkCx_ok del_nil 15 kp51 []) Try.func51 rfl rfl (Nat.le_of_ble_eq_true rfl) (by kernel_rfl) ?_
  rw [Try.results51]
  unfold inR
  by_cases h : lo ≤ n <;> simp [kp51, h]

def s80 : List D → Option D := sp3 cInt cInt cInt cBool fun n lo hi => some (inR n lo hi)
theorem ok80 : ∀ ds d, s80 ds = some d → PureC Try.prog 80 ds d := ok_sp3 fun n lo hi r hr => by
  cases hr
  refine pure_of_call (mkCx_ok del_nil 15 kp80 []) Try.func80 rfl rfl (Nat.le_of_ble_eq_true rfl) (by kernel_rfl) ?_
  rw [Try.results80]
  unfold inR
  by_cases h : lo ≤ n <;> simp [kp80, h]
theorem call51 (xs : Array Value) (w : World) : (callFunc 51 xs).run Try.prog w = .ok (.enter 51 xs) w := by kernel_rfl
theorem call80 (xs : Array Value) (w : World) : (callFunc 80 xs).run Try.prog w = .ok (.enter 80 xs) w := by kernel_rfl
def l1 : List (Nat × (List D → Option D)) := [(51, s51), (80, s80)]
theorem del1 : DelOk Try.prog (delOf l1) := del_cons (del_cons del_nil call80 ok80) call51 ok51

def rSpn : Row Spn := ⟨2, fun x => [DI x.lo, DI x.hi], fun d => match d with | [.v (.int .i64 a), .v (.int .i64 b)] => some ⟨a, b⟩ | _ => none, fun _ => rfl, fun d x h => by
  split at h
  · cases h; exact LImp.refl _
  · cases h⟩
theorem rSpn_enc (x : Spn) : rSpn.enc x = [DI x.lo, DI x.hi] := rfl
theorem rSpn_dec (a b : Int) : rSpn.dec [DI a, DI b] = some ⟨a, b⟩ := rfl
def spanE (s : Spn) (lo hi : Int) : Int := if inR s.lo lo hi = false ∨ inR s.hi lo hi = false then 7 else if s.hi < s.lo then 2 else 0
def s52 : List D → Option D := sp3 (cAgg rSpn) cInt cInt cInt fun s lo hi => some (spanE s lo hi)
theorem ok52 : ∀ ds d, s52 ds = some d → PureC Try.prog 52 ds d := ok_sp3 fun s lo hi r hr => by
  cases hr
  refine pure_of_call (mkCx_ok del1 26 kp52 []) Try.func52 rfl rfl (Nat.le_of_ble_eq_true rfl) (by kernel_rfl) ?_
  rw [Try.results52]
  unfold spanE
  cases h1 : inR s.lo lo hi <;> cases h2 : inR s.hi lo hi <;> by_cases h3 : s.hi < s.lo <;> simp [kp52, l1, s80, rSpn_enc, h1, h2, h3, ty24, ty3]
def powR (n : Int) : Nat → Int
  | 0 => 1
  | k + 1 => IntKind.i64.wrap (powR n k * n)
def s39 : List D → Option D := sp2 cInt cInt cInt fun n times => if times < 100 then some (powR n times.toNat) else none
theorem ok39 : ∀ ds d, s39 ds = some d → PureC Try.prog 39 ds d := ok_sp2 fun n times r hr => by
  split at hr
  · rename_i ht
    cases hr
    generalize hn : times.toNat = n'
    have hb : ∀ j : Nat, (j < n' ↔ (j : Int) < times) := by intro j; omega
    refine pure_of_call (mkCx_ok del_nil 16 kp39 []) Try.func39 rfl rfl (Nat.le_of_ble_eq_true rfl) (by kernel_rfl) ?_
    rw [Try.results39]
    simp [kp39]
    generalize hL : Cx.loop _ _ _ = R
    have hR : R = some (.exit 0, ⟨[(0, .d (DI n)), (1, .d (DI times)), (5, .d (DI (powR n n'))), (6, .d (DI n')), (9, .d (DB false))], [], []⟩) := by
      rw [← hL]
      refine loop_run (fun k => ⟨[(0, .d (DI n)), (1, .d (DI times)), (5, .d (DI (powR n k))), (6, .d (DI k))], [], []⟩) _ _ n' (by simp) (fun j hj => ?_) ?_ (by simp only [mkCx, fuel]; omega)
      · have h1 := (hb j).1 hj
        have h2 := wrap_small ((j : Int) + 1) (by omega) (by omega)
        simp [kp39, h1, h2, powR]
      · have h1 : ¬ ((n' : Int) < times) := fun h => by have := (hb n').2 h; omega
        simp [kp39, h1]
    rw [hR]
    simp [kp39]
  · cases hr
end Go.Proofs.Ytpkjmnfgpbliaaa
namespace Go.Proofs.Ytpkjmnfgpbliaaa
open Go.RowKit
set_option linter.unusedSimpArgs false
set_option linter.unusedVariables false

def kp81 (r : Nat) : List (Nat × Option Nat) := match r with
  | 0 => [(0, none)]
  | 1 => [(0, none), (20, none)]
  | 2 => [(2, none)]
  | 3 => [(0, none), (3, none)]
  | 4 => [(0, none), (3, none), (24, none)]
  | 5 => [(0, none), (3, none)]
  | 6 => [(0, none), (3, none), (55, none)]
  | 7 => [(2, none)]
  | 8 => [(2, none)]
  | _ => []
def kp53 (r : Nat) : List (Nat × Option Nat) := match r with
  | 0 => [(0, none), (1, none)]
  | 1 => [(0, none), (1, none), (8, none)]
  | 2 => [(4, none)]
  | 3 => [(0, none), (1, none), (5, none)]
  | 4 => [(0, none), (1, none), (5, none), (12, none)]
  | 5 => [(0, none), (1, none), (5, none)]
  | 6 => [(0, none), (1, none), (5, none), (20, none)]
  | 7 => [(4, none)]
  | 8 => [(4, none)]
  | _ => []
/-- Nothing is wrong at a place of a name. -/
def nmAt (s : ByteArray) (i : Nat) : Bool := !(!(byteAt s i == 45) && !inR (byteAt s i) 97 122) && !(decide (0 < i) && byteAt s i == 45 && byteAt s (i - 1) == 45)
def refName (s : ByteArray) : Bool := inR s.size 1 20 && !(byteAt s 0 == 45) && !(byteAt s (s.size - 1) == 45) && decide (∀ i, i < s.size → nmAt s i = true)
theorem byteAt_bd (s : ByteArray) (i : Nat) : 0 ≤ byteAt s i ∧ byteAt s i ≤ 255 := by
  unfold byteAt
  have := (s[i]?.getD 0).toNat_lt
  omega
def s81 : List D → Option D := sp1 cStr cBool fun s => some (refName s)
theorem ok81 : ∀ ds d, s81 ds = some d → PureC Try.prog 81 ds d := ok_sp1 fun s r hr => by
  cases hr
  refine pure_of_call (mkCx_ok del1 56 kp81 []) Try.func81 rfl rfl (Nat.le_of_ble_eq_true rfl) (by kernel_rfl) ?_
  rw [Try.results81]
  cases h1 : inR s.size 1 20 with
  | false => simp [kp81, refName, h1, l1, s80, ty9]
  | true =>
    have hs : 1 ≤ (s.size : Int) ∧ (s.size : Int) ≤ 20 := by simpa [inR] using h1
    have hsz : (0 : Int) < (s.size : Int) := by omega
    have hsz2 : 0 < s.size := by omega
    cases h2 : byteAt s 0 == 45 with
    | true => simp [kp81, refName, h1, h2, l1, s80, ty9, ty5, hsz, hsz2]
    | false =>
      have hw : IntKind.i64.wrap ((s.size : Int) - 1) = ((s.size - 1 : Nat) : Int) := by rw [wrap_small _ (by omega) (by omega)]; omega
      have hlt : ((s.size - 1 : Nat) : Int) < (s.size : Int) := by omega
      cases h3 : byteAt s (s.size - 1) == 45 with
      | true => simp [kp81, refName, h1, h2, h3, l1, s80, ty9, ty5, hsz, hsz2, hw, hlt]
      | false =>
        have hcase : ∀ k, (byteAt s k == 45) = false ∧ (inR (byteAt s k) 97 122 = nmAt s k) ∨ (byteAt s k == 45) = true ∧ k = 0 ∧ nmAt s k = true ∨ (byteAt s k == 45) = true ∧ 0 < k ∧ (byteAt s (k - 1) == 45) = !nmAt s k := by
          intro k
          unfold nmAt
          cases hb : byteAt s k == 45 with
          | false => left; simp
          | true =>
            right
            by_cases hk : k = 0
            · left; simp [hk]
            · right; simp; omega
        rcases first_not (nmAt s) s.size with hall | ⟨k, hk, hbad, hgood⟩
        · have hr : refName s = true := by simp [refName, h1, h2, h3]; exact hall
          rw [hr]
          simp [kp81, h1, h2, h3, l1, s80, ty9, ty5, hsz, hsz2, hw, hlt]
          generalize hL : Cx.loop _ _ _ = R
          have hR : R = some (.exit 0, ⟨[(0, .d (DS s)), (3, .d (DI s.size)), (24, .d (DB false))], [], []⟩) := by
            rw [← hL]
            refine loop_run (fun k => ⟨[(0, .d (DS s)), (3, .d (DI k))], [], []⟩) _ _ s.size (by simp) (fun j hj => ?_) ?_ (by simp only [mkCx, fuel]; omega)
            · have hj' : (j : Int) < (s.size : Int) := by omega
              have h2 := wrap_small ((j : Int) + 1) (by omega) (by omega)
              have hn := hall j hj
              have hbd := byteAt_bd s j
              have hwb := wrap_small (byteAt s j) (by omega) (by omega)
              rcases hcase j with ⟨c1, c2⟩ | ⟨c1, c2, c3⟩ | ⟨c1, c2, c3⟩
              · rw [hn] at c2
                by_cases hj0 : 0 < j
                · simp [kp81, ty9, ty5, ty3, hj, h2, c1, c2, hwb, l1, s80, hj0, bne]
                · simp [kp81, ty9, ty5, ty3, hj, h2, c1, c2, hwb, l1, s80, hj0, bne]
              · subst c2
                simp [kp81, ty9, ty5, ty3, hj, h2, c1, l1, s80, bne, hsz, hsz2]
              · rw [hn] at c3
                have hw1 : IntKind.i64.wrap ((j : Int) - 1) = ((j - 1 : Nat) : Int) := by rw [wrap_small _ (by omega) (by omega)]; omega
                have hlt1 : j - 1 < s.size := by omega
                simp [kp81, ty9, ty5, ty3, hj, h2, c1, c3, c2, l1, s80, bne, hw1, hlt1]
            · simp [kp81, ty9]
          rw [hR]
          simp [kp81]
        · have hr : refName s = false := by
            have : ¬ ∀ i, i < s.size → nmAt s i = true := fun h => by rw [h k hk] at hbad; cases hbad
            simp [refName, this]
          rw [hr]
          simp [kp81, h1, h2, h3, l1, s80, ty9, ty5, hsz, hsz2, hw, hlt]
          generalize hL : Cx.loop _ _ _ = R
          have hR : R = some (.ret, ⟨[(2, .d (DB false))], [], []⟩) := by
            rw [← hL]
            refine loop_run (fun k => ⟨[(0, .d (DS s)), (3, .d (DI k))], [], []⟩) _ _ k (by simp) (fun j hj => ?_) ?_ (by simp only [mkCx, fuel]; omega)
            · have hjs : j < s.size := by omega
              have h2 := wrap_small ((j : Int) + 1) (by omega) (by omega)
              have hn := hgood j hj
              have hbd := byteAt_bd s j
              have hwb := wrap_small (byteAt s j) (by omega) (by omega)
              rcases hcase j with ⟨c1, c2⟩ | ⟨c1, c2, c3⟩ | ⟨c1, c2, c3⟩
              · rw [hn] at c2
                by_cases hj0 : 0 < j
                · simp [kp81, ty9, ty5, ty3, hjs, h2, c1, c2, hwb, l1, s80, hj0, bne]
                · simp [kp81, ty9, ty5, ty3, hjs, h2, c1, c2, hwb, l1, s80, hj0, bne]
              · subst c2
                simp [kp81, ty9, ty5, ty3, hjs, h2, c1, l1, s80, bne, hsz, hsz2]
              · rw [hn] at c3
                have hw1 : IntKind.i64.wrap ((j : Int) - 1) = ((j - 1 : Nat) : Int) := by rw [wrap_small _ (by omega) (by omega)]; omega
                have hlt1 : j - 1 < s.size := by omega
                simp [kp81, ty9, ty5, ty3, hjs, h2, c1, c3, c2, l1, s80, bne, hw1, hlt1]
            · have hbd := byteAt_bd s k
              have hwb := wrap_small (byteAt s k) (by omega) (by omega)
              rcases hcase k with ⟨c1, c2⟩ | ⟨c1, c2, c3⟩ | ⟨c1, c2, c3⟩
              · rw [hbad] at c2
                simp [kp81, ty9, ty5, ty3, hk, c1, c2, hwb, l1, s80, bne]
              · rw [hbad] at c3; cases c3
              · rw [hbad] at c3
                have hw1 : IntKind.i64.wrap ((k : Int) - 1) = ((k - 1 : Nat) : Int) := by rw [wrap_small _ (by omega) (by omega)]; omega
                have hlt1 : k - 1 < s.size := by omega
                simp [kp81, ty9, ty5, ty3, hk, c1, c3, c2, l1, s80, bne, hw1, hlt1]
          rw [hR]
          simp [kp81]
end Go.Proofs.Ytpkjmnfgpbliaaa
namespace Go.Proofs.Ytpkjmnfgpbliaaa
open Go.RowKit
set_option linter.unusedSimpArgs false
set_option linter.unusedVariables false

theorem call81 (xs : Array Value) (w : World) : (callFunc 81 xs).run Try.prog w = .ok (.enter 81 xs) w := by kernel_rfl
theorem call52 (xs : Array Value) (w : World) : (callFunc 52 xs).run Try.prog w = .ok (.enter 52 xs) w := by kernel_rfl
theorem call39 (xs : Array Value) (w : World) : (callFunc 39 xs).run Try.prog w = .ok (.enter 39 xs) w := by kernel_rfl
def l2 : List (Nat × (List D → Option D)) := (81, s81) :: (52, s52) :: (39, s39) :: l1
theorem del2 : DelOk Try.prog (delOf l2) := del_cons (del_cons (del_cons del1 call39 ok39) call52 ok52) call81 ok81

def kp54 (r : Nat) : List (Nat × Option Nat) := match r with
  | 0 => [(1, none), (2, none)]
  | 1 => [(1, none), (2, none), (10, none)]
  | 2 => [(4, none)]
  | 3 => [(1, none), (2, none), (5, none)]
  | 4 => [(1, none), (2, none), (5, none), (13, none)]
  | 5 => [(1, none), (2, none), (5, none)]
  | 6 => [(1, none), (2, none), (5, none), (22, none)]
  | 7 => [(4, none)]
  | 8 => [(4, none)]
  | _ => []
def namedE (s : ByteArray) (before : List ByteArray) : Int := if refName s = false then 6 else if before.any (fun x => x.toList == s.toList) then 5 else 0
def s53 : List D → Option D := sp2 cStr (cList rStr) cInt fun s before => if before.length < 1000000 then some (namedE s before) else none
theorem ok53 : ∀ ds d, s53 ds = some d → PureC Try.prog 53 ds d := ok_sp2 fun s before r hr => by
  split at hr
  · rename_i hlen
    cases hr
    refine pure_of_call (mkCx_ok del2 21 kp53 []) Try.func53 rfl rfl (Nat.le_of_ble_eq_true rfl) (by kernel_rfl) ?_
    rw [Try.results53]
    unfold namedE
    cases h1 : refName s with
    | false => simp [kp53, h1, l2, l1, s81]
    | true =>
      rcases first_not (fun k => !((before.getD k ByteArray.empty).toList == s.toList)) before.length with hall | ⟨k, hk, hbad, hgood⟩
      · have hr : before.any (fun x => x.toList == s.toList) = false := by
          rw [List.any_eq_false]
          intro x hx
          obtain ⟨j, hj, rfl⟩ := List.getElem_of_mem hx
          have := hall j hj
          simpa [List.getD, hj] using this
        simp [kp53, h1, l2, l1, s81, hr]
        generalize hL : Cx.loop _ _ _ = R
        have hR : R = some (.exit 0, ⟨[(0, .d (DS s)), (1, .d ((cList rStr).enc before)), (5, .d (DI before.length)), (12, .d (DB false))], [], []⟩) := by
          rw [← hL]
          refine loop_run (fun k => ⟨[(0, .d (DS s)), (1, .d ((cList rStr).enc before)), (5, .d (DI k))], [], []⟩) _ _ before.length (by simp) (fun j hj => ?_) ?_ (by simp only [mkCx, fuel]; omega)
          · have h2 := wrap_small ((j : Int) + 1) (by omega) (by omega)
            have hn : (before[j].toList == s.toList) = false := by have := hall j hj; simpa [List.getD, hj] using this
            simp [kp53, ty98, ty9, hj, h2, hn]
          · simp [kp53, ty98]
        rw [hR]
        simp [kp53]
      · have hr : before.any (fun x => x.toList == s.toList) = true := by
          rw [List.any_eq_true]
          exact ⟨before[k], List.getElem_mem hk, by simpa [List.getD, hk] using hbad⟩
        simp [kp53, h1, l2, l1, s81, hr]
        generalize hL : Cx.loop _ _ _ = R
        have hR : R = some (.ret, ⟨[(4, .d (DI 5))], [], []⟩) := by
          rw [← hL]
          refine loop_run (fun k => ⟨[(0, .d (DS s)), (1, .d ((cList rStr).enc before)), (5, .d (DI k))], [], []⟩) _ _ k (by simp) (fun j hj => ?_) ?_ (by simp only [mkCx, fuel]; omega)
          · have hjs : j < before.length := by omega
            have h2 := wrap_small ((j : Int) + 1) (by omega) (by omega)
            have hn : (before[j].toList == s.toList) = false := by have := hgood j hj; simpa [List.getD, hjs] using this
            simp [kp53, ty98, ty9, hjs, h2, hn]
          · have hn : (before[k].toList == s.toList) = true := by simpa [List.getD, hk] using hbad
            simp [kp53, ty98, ty9, hk, hn]
        rw [hR]
        simp [kp53]
  · cases hr

def rCol : Row Col := ⟨4, fun c => [DS c.name, DI c.stay.lo, DI c.stay.hi, .sl 1 (c.shows.map rInt.enc)], fun d => match d with
  | [.v (.string n), .v (.int .i64 a), .v (.int .i64 b), e] => (match (cList rInt).dec e with | some l => some ⟨n, ⟨a, b⟩, l⟩ | none => none)
  | _ => none, fun c => by simp only [cList_dec rInt c.shows 1 rfl], fun d x h => by
    split at h
    · split at h
      · rename_i l hl
        cases h
        exact ⟨_, _, rfl, DImp.refl _, _, _, rfl, DImp.refl _, _, _, rfl, DImp.refl _, _, _, rfl, (cList rInt).ed _ _ hl, rfl⟩
      · cases h
    · cases h⟩
theorem rCol_enc (c : Col) : rCol.enc c = [DS c.name, DI c.stay.lo, DI c.stay.hi, .sl 1 (c.shows.map rInt.enc)] := rfl
theorem rCol_k : rCol.k = 4 := rfl
def oneE (c : Col) (n : Int) : Int := if ¬ (c.shows.length : Int) = n then 3 else if outB 0 1000 c.shows then 7 else spanE c.stay 0 1000
theorem outB_first (lo hi : Int) (l : List Int) : (outB lo hi l = false ∧ ∀ k, k < l.length → inR (l.getD k 0) lo hi = true) ∨ (outB lo hi l = true ∧ ∃ k, k < l.length ∧ inR (l.getD k 0) lo hi = false ∧ ∀ j, j < k → inR (l.getD j 0) lo hi = true) := by
  rcases first_not (fun k => inR (l.getD k 0) lo hi) l.length with hall | ⟨k, hk, hbad, hgood⟩
  · refine .inl ⟨?_, hall⟩
    rw [outB_all]
    intro i hi'
    have := hall i hi'
    simpa [inR] using this
  · refine .inr ⟨?_, k, hk, hbad, hgood⟩
    cases h : outB lo hi l with
    | true => rfl
    | false =>
      have := (outB_all lo hi l).1 h k hk
      have h2 : inR (l.getD k 0) lo hi = true := by simpa [inR] using this
      rw [h2] at hbad; cases hbad
def s54 : List D → Option D := sp2 (cAgg rCol) cInt cInt fun c n => if n < 1000000 then some (oneE c n) else none
theorem ok54 : ∀ ds d, s54 ds = some d → PureC Try.prog 54 ds d := ok_sp2 fun c n r hr => by
  split at hr
  · rename_i hlen
    cases hr
    refine pure_of_call (mkCx_ok del2 26 kp54 []) Try.func54 rfl rfl (Nat.le_of_ble_eq_true rfl) (by kernel_rfl) ?_
    rw [Try.results54]
    unfold oneE
    by_cases hn : (c.shows.length : Int) = n
    · subst hn
      rcases outB_first 0 1000 c.shows with ⟨ho, hall⟩ | ⟨ho, k, hk, hbad, hgood⟩
      · simp [kp54, ty67, ty42, rCol_enc, ho]
        (generalize hLoopQ : Cx.loop _ _ _ = rLoopQ; apply loop_then hLoopQ (fun k => ⟨[(1, .d (DI c.shows.length)), (2, .loc 2 0), (5, .d (DI k))], [(2, [.d (DS c.name), .d (DI c.stay.lo), .d (DI c.stay.hi), .d (.sl 1 (c.shows.map rInt.enc))])], []⟩) c.shows.length rfl; rotate_left; (show _ < 281474976710656; omega); rfl; rotate_left; all_goals clear hLoopQ)
        · intro j hj
          have h2 := wrap_small ((j : Int) + 1) (by omega) (by omega)
          have hn := hall j hj
          simp [List.getD, hj] at hn
          simp [kp54, ty67, ty42, ty3, hj, h2, hn, l2, l1, s51]
        · simp [kp54, ty67, ty42, ty24, ty3, l2, l1, s52, rSpn_dec]
      · simp [kp54, ty67, ty42, rCol_enc, ho]
        (generalize hLoopQ : Cx.loop _ _ _ = rLoopQ; apply loop_then hLoopQ (fun k => ⟨[(1, .d (DI c.shows.length)), (2, .loc 2 0), (5, .d (DI k))], [(2, [.d (DS c.name), .d (DI c.stay.lo), .d (DI c.stay.hi), .d (.sl 1 (c.shows.map rInt.enc))])], []⟩) k rfl; rotate_left; (show _ < 281474976710656; omega); rfl; rotate_left; all_goals clear hLoopQ)
        · intro j hj
          have hj' : j < c.shows.length := by omega
          have h2 := wrap_small ((j : Int) + 1) (by omega) (by omega)
          have hn := hgood j hj
          simp [List.getD, hj'] at hn
          simp [kp54, ty67, ty42, ty3, hj', h2, hn, l2, l1, s51]
        · simp [List.getD, hk] at hbad
          simp [kp54, ty67, ty42, ty24, ty3, l2, l1, s51, hbad, hk]
    · have hn' : ((c.shows.length : Int) != n) = true := by simpa using hn
      simp [kp54, ty67, ty42, rCol_enc, hn, hn']
  · cases hr
end Go.Proofs.Ytpkjmnfgpbliaaa
namespace Go.Proofs.Ytpkjmnfgpbliaaa
open Go.RowKit
set_option linter.unusedSimpArgs false
set_option linter.unusedVariables false

theorem outB_inR (lo hi x : Int) : outB lo hi [x] = !inR x lo hi := by
  cases h : outB lo hi [x] with
  | false => have := (outB_one lo hi x).1 h; simp [inR, this]
  | true =>
    have : ¬ outB lo hi [x] = false := by simp [h]
    rw [outB_one] at this
    cases h2 : inR x lo hi with
    | false => rfl
    | true => exact absurd (by simpa [inR] using h2) this
theorem outB_inR2 (lo hi x y : Int) : outB lo hi [x, y] = !(inR x lo hi && inR y lo hi) := by
  have : outB lo hi [x, y] = (outB lo hi [x] || outB lo hi [y]) := by simp [outB]
  rw [this, outB_inR, outB_inR]; simp
/-- The letter in front of a place. -/
def frontAt (l : List UInt8) (last : Int) (i : Nat) : Int := if i = 0 then last else (l.getD (i - 1) 0).toNat
theorem nameGo_iff : ∀ (l : List UInt8) (last : Int), nameGo l last = true ↔ (∀ i, i < l.length → (((l.getD i 0).toNat : Int) = 45 ∨ (97 ≤ ((l.getD i 0).toNat : Int) ∧ ((l.getD i 0).toNat : Int) ≤ 122)) ∧ ¬ (((l.getD i 0).toNat : Int) = 45 ∧ frontAt l last i = 45)) ∧ ¬ frontAt l last l.length = 45
  | [], last => by simp [nameGo, frontAt]
  | x :: t, last => by
    have hfr : ∀ i, frontAt (x :: t) last (i + 1) = frontAt t x.toNat i := by
      intro i
      unfold frontAt
      cases i with
      | zero => simp
      | succ i => simp
    have ih := nameGo_iff t x.toNat
    rw [nameGo]
    by_cases h1 : (x.toNat : Int) = 45
    · rw [if_pos h1]
      by_cases h2 : last = 45
      · rw [if_pos h2]
        constructor
        · intro h; cases h
        · intro h; exact absurd ⟨by simpa using h1, by simpa [frontAt] using h2⟩ (h.1 0 (by simp)).2
      · rw [if_neg h2]
        rw [h1] at ih
        rw [ih, List.length_cons, hfr, h1]
        constructor
        · rintro ⟨h, h'⟩
          refine ⟨fun i hi => ?_, h'⟩
          cases i with
          | zero => exact ⟨.inl (by simpa using h1), fun hh => h2 (by simpa [frontAt] using hh.2)⟩
          | succ i => rw [hfr, h1]; simpa using h i (by simpa using hi)
        · rintro ⟨h, h'⟩
          refine ⟨fun i hi => ?_, h'⟩
          have := h (i + 1) (by simpa using hi)
          rw [hfr, h1] at this; simpa using this
    · rw [if_neg h1]
      by_cases h2 : (x.toNat : Int) < 97 ∨ 122 < (x.toNat : Int)
      · rw [if_pos h2]
        constructor
        · intro h; cases h
        · intro h
          have := (h.1 0 (by simp)).1
          simp at this
          omega
      · rw [if_neg h2, ih, List.length_cons, hfr]
        constructor
        · rintro ⟨h, h'⟩
          refine ⟨fun i hi => ?_, h'⟩
          cases i with
          | zero => exact ⟨.inr (by simp; omega), fun hh => h1 (by simpa using hh.1)⟩
          | succ i => rw [hfr]; simpa using h i (by simpa using hi)
        · rintro ⟨h, h'⟩
          refine ⟨fun i hi => ?_, h'⟩
          have := h (i + 1) (by simpa using hi)
          rw [hfr] at this; simpa using this
theorem byteAt_list (s : ByteArray) (i : Nat) : byteAt s i = ((s.data.toList.getD i 0).toNat : Int) := by
  unfold byteAt
  by_cases h : i < s.size
  · have h2 : i < s.data.toList.length := by simpa using h
    rw [getD_at _ _ _ h2]
    simp [getElem?_pos, h]
    rfl
  · have h2 : s.data.toList.length ≤ i := by simpa using h
    simp [List.getD, h2, getElem?_neg, h]
theorem nmAt_iff (s : ByteArray) (i : Nat) : nmAt s i = true ↔ (byteAt s i = 45 ∨ (97 ≤ byteAt s i ∧ byteAt s i ≤ 122)) ∧ (0 < i → byteAt s i = 45 → ¬ byteAt s (i - 1) = 45) := by
  unfold nmAt inR
  by_cases h1 : byteAt s i = 45 <;> by_cases h2 : 0 < i <;> by_cases h3 : byteAt s (i - 1) = 45 <;> simp [h1, h2, h3]
theorem refName_iff (s : ByteArray) : refName s = true ↔ (1 ≤ (s.size : Int) ∧ (s.size : Int) ≤ 20) ∧ ¬ byteAt s 0 = 45 ∧ ¬ byteAt s (s.size - 1) = 45 ∧ ∀ i, i < s.size → nmAt s i = true := by
  unfold refName
  simp [inR, and_assoc]
theorem refName_eq (s : ByteArray) : refName s = nameB s := by
  have hlen : s.data.toList.length = s.size := by simp
  rw [Bool.eq_iff_iff, refName_iff]
  unfold nameB
  rw [Bool.and_eq_true, nameGo_iff, hlen]
  simp only [← byteAt_list, decide_eq_true_eq, frontAt]
  constructor
  · rintro ⟨⟨h1, h2⟩, h3, h4, h5⟩
    refine ⟨⟨fun i hi => ?_, ?_⟩, by omega⟩
    · have := (nmAt_iff s i).1 (h5 i hi)
      refine ⟨this.1, ?_⟩
      by_cases hi0 : i = 0
      · subst hi0; intro hh; exact h3 hh.1
      · rw [if_neg hi0]; intro hh; exact this.2 (by omega) hh.1 hh.2
    · rw [if_neg (by omega)]; exact h4
  · rintro ⟨⟨h1, h2⟩, h3⟩
    have hs : ¬ s.size = 0 := fun h => by rw [if_pos h] at h2; exact h2 rfl
    rw [if_neg hs] at h2
    refine ⟨by omega, fun h => (h1 0 (by omega)).2 ⟨h, by simp⟩, h2, fun i hi => (nmAt_iff s i).2 ⟨(h1 i hi).1, fun hi0 hb hb2 => (h1 i hi).2 ⟨hb, by rw [if_neg (by omega)]; exact hb2⟩⟩⟩
theorem spanE_eq (s : Spn) : spanE s 0 1000 = if outB 0 1000 [s.lo, s.hi] then 7 else if s.hi < s.lo then 2 else 0 := by
  unfold spanE
  rw [outB_inR2]
  cases inR s.lo 0 1000 <;> cases inR s.hi 0 1000 <;> simp
theorem sameName_eq (c : ByteArray) (l : List Col) : l.any (sameName c) = (l.map (·.name)).any (fun x => x.toList == c.toList) := by
  rw [List.any_map]
  rfl
theorem colErr_eq (s : Shp) (i : Nat) (c : Col) : colErr s i c = (if namedE c.name ((s.cols.take i).map (·.name)) = 0 then oneE c s.cols.length else namedE c.name ((s.cols.take i).map (·.name))) := by
  unfold colErr namedE oneE
  rw [refName_eq, sameName_eq, spanE_eq]
  cases nameB c.name
  · simp
  · cases ((s.cols.take i).map (·.name)).any (fun x => x.toList == c.name.toList)
    · by_cases h : c.shows.length = s.cols.length
      · simp [h]
      · have h' : ¬ (c.shows.length : Int) = s.cols.length := by omega
        simp [h, h']
    · simp
def chkKeep (s : Shp) : Int := if inR s.rinse 0 10000 = false then 7 else spanE s.keep 0 1000
theorem chk_eq (s : Shp) : chk s = if inR s.cols.length 1 6 = false then (1, 0, 3) else if ¬ chkKeep s = 0 then (1, 0, chkKeep s) else chkGo s 0 s.cols := by
  unfold chk chkKeep
  rw [outB_inR, outB_inR, spanE_eq]
  cases inR (s.cols.length : Int) 1 6
  · simp
  · cases inR s.rinse 0 10000
    · simp
    · cases outB 0 1000 [s.keep.lo, s.keep.hi]
      · by_cases h : s.keep.hi < s.keep.lo <;> simp [h]
      · simp

theorem call53 (xs : Array Value) (w : World) : (callFunc 53 xs).run Try.prog w = .ok (.enter 53 xs) w := by kernel_rfl
theorem call54 (xs : Array Value) (w : World) : (callFunc 54 xs).run Try.prog w = .ok (.enter 54 xs) w := by kernel_rfl
def l3 : List (Nat × (List D → Option D)) := (53, s53) :: (54, s54) :: l2
theorem del3 : DelOk Try.prog (delOf l3) := del_cons (del_cons del2 call54 ok54) call53 ok53
def rShp : Row Shp := ⟨4, fun s => [.sl 4 (s.cols.map rCol.enc), DI s.keep.lo, DI s.keep.hi, DI s.rinse], fun d => match d with
  | [e, .v (.int .i64 a), .v (.int .i64 b), .v (.int .i64 r)] => (match (cList rCol).dec e with | some l => some ⟨l, ⟨a, b⟩, r⟩ | none => none)
  | _ => none, fun s => by simp only [cList_dec rCol s.cols 4 rfl], fun d x h => by
    split at h
    · split at h
      · rename_i l hl
        cases h
        exact ⟨_, _, rfl, (cList rCol).ed _ _ hl, _, _, rfl, DImp.refl _, _, _, rfl, DImp.refl _, _, _, rfl, DImp.refl _, rfl⟩
      · cases h
    · cases h⟩
theorem rShp_enc (s : Shp) : rShp.enc s = [.sl 4 (s.cols.map rCol.enc), DI s.keep.lo, DI s.keep.hi, DI s.rinse] := rfl
theorem rShp_k : rShp.k = 4 := rfl
theorem rCol_dec (c : Col) : rCol.dec [DS c.name, DI c.stay.lo, DI c.stay.hi, .sl 1 (c.shows.map rInt.enc)] = some c := rCol.de c
theorem rShp_dec (s : Shp) : rShp.dec [.sl 4 (s.cols.map rCol.enc), DI s.keep.lo, DI s.keep.hi, DI s.rinse] = some s := rShp.de s
def kp16 (r : Nat) : List (Nat × Option Nat) := match r with
  | 0 => [(1, none)]
  | 1 => [(1, none), (12, none)]
  | 2 => [(2, none), (3, none), (4, none)]
  | 3 => [(1, none), (5, none)]
  | 4 => [(1, none), (5, none), (19, none)]
  | 5 => [(1, none), (5, none)]
  | 6 => [(1, none), (5, none), (21, none)]
  | 7 => [(2, none), (3, none), (4, none)]
  | 8 => [(1, none), (6, some 1)]
  | 9 => [(1, none), (6, some 1), (7, none)]
  | 10 => [(1, none), (6, some 1), (7, none), (27, none)]
  | 11 => [(1, none), (6, some 1), (7, none)]
  | 12 => [(1, none), (5, none), (6, some 1), (7, none)]
  | 13 => [(1, none), (5, none), (6, some 1), (7, none)]
  | 14 => [(1, none), (5, none), (6, some 1), (7, none), (48, none)]
  | 15 => [(1, none), (5, none), (6, some 1), (7, none)]
  | 16 => [(1, none), (5, none), (6, some 1), (7, none), (59, none)]
  | 17 => [(2, none), (3, none), (4, none)]
  | 18 => [(2, none), (3, none), (4, none)]
  | _ => []
def names (s : Shp) (k : Nat) : List ByteArray := (s.cols.take k).map (·.name)
theorem names_zero (s : Shp) : names s 0 = [] := rfl
theorem names_succ (s : Shp) (k : Nat) (h : k < s.cols.length) : names s (k + 1) = names s k ++ [s.cols[k].name] := by
  unfold names; rw [List.take_succ_eq_append_getElem h, List.map_append]; rfl
theorem names_len (s : Shp) (k : Nat) : (names s k).length ≤ k := by simp [names]; omega
theorem errs_zero {s : Shp} {k : Nat} (h : k < s.cols.length) (he : colErr s k s.cols[k] = 0) : namedE s.cols[k].name (names s k) = 0 ∧ oneE s.cols[k] s.cols.length = 0 := by
  rw [colErr_eq] at he
  change (if namedE s.cols[k].name (names s k) = 0 then oneE s.cols[k] s.cols.length else namedE s.cols[k].name (names s k)) = 0 at he
  by_cases h1 : namedE s.cols[k].name (names s k) = 0
  · exact ⟨h1, by rw [if_pos h1] at he; exact he⟩
  · rw [if_neg h1] at he; exact absurd he h1
theorem chkGo_run (s : Shp) (k : Nat) (hk : k ≤ s.cols.length) (h : ∀ j (hj : j < s.cols.length), j < k → colErr s j s.cols[j] = 0) : chkGo s 0 s.cols = chkGo s k (s.cols.drop k) := by
  induction k with
  | zero => rfl
  | succ k ih =>
    rw [ih (by omega) (fun j hj hjk => h j hj (by omega)), List.drop_eq_getElem_cons (show k < s.cols.length by omega), chkGo, if_pos (h k (by omega) (by omega))]
theorem rCol_decL (l : List Col) : (cList rCol).dec (.sl 4 (l.map rCol.enc)) = some l := cList_dec rCol l 4 rfl
def s16 : List D → Option D := sp1 (cAgg rShp) (cTup3 cInt cInt cInt) fun s => some (chk s)
theorem ok16 : ∀ ds d, s16 ds = some d → PureC Try.prog 16 ds d := ok_sp1 fun s r hr => by
  cases hr
  refine pure_of_call (mkCx_ok del3 62 kp16 []) Try.func16 rfl rfl (Nat.le_of_ble_eq_true rfl) (by kernel_rfl) ?_
  rw [Try.results16]
  rw [chk_eq]
  cases h1 : inR s.cols.length 1 6 with
  | false => simp [kp16, rShp_enc, l3, l2, l1, s51, h1]
  | true =>
    have hn : 1 ≤ (s.cols.length : Int) ∧ (s.cols.length : Int) ≤ 6 := by simpa [inR] using h1
    by_cases h2 : chkKeep s = 0
    · unfold chkKeep at h2 ⊢
      cases h3 : inR s.rinse 0 10000 with
      | false => simp [h3] at h2
      | true =>
        simp [h3] at h2
        simp [kp16, rShp_enc, rShp_dec, rSpn_dec, l3, l2, l1, s51, s52, h1, h2, h3]
        rcases first_not (fun k => colErr s k (s.cols.getD k default) == 0) s.cols.length with hall | ⟨k, hk, hbad, hgood⟩
        · have hz : ∀ j (hj : j < s.cols.length), colErr s j s.cols[j] = 0 := fun j hj => by simpa [List.getD, hj] using hall j hj
          rw [chkGo_run s s.cols.length (Nat.le_refl _) (fun j hj _ => hz j hj), List.drop_length, chkGo]
          (generalize hLoopQ : Cx.loop _ _ _ = rLoopQ; apply loop_then hLoopQ (fun k => ⟨[(1, .loc 1 0), (6, .sl 1 ((names s k).map rStr.enc) (.tok 6)), (7, .d (DI k))], [(1, [.d (.sl 4 (s.cols.map rCol.enc)), .d (DI s.keep.lo), .d (DI s.keep.hi), .d (DI s.rinse)])], [6]⟩) s.cols.length rfl; rotate_left; (show _ < 281474976710656; omega); rfl; rotate_left; all_goals clear hLoopQ)
          · intro j hj
            obtain ⟨e1, e2⟩ := errs_zero hj (hz j hj)
            have h4 := wrap_small ((j : Int) + 1) (by omega) (by omega)
            have h5 := names_len s j
            have h6 : (names s j).length < 1000000 := by omega
            have h7 : (s.cols.length : Int) < 1000000 := by omega
            have h8 : (names s j).length ≤ 140737488355327 ∧ ((names s j).length + 1) * 16 ≤ 140737488355328 := by omega
            simp [kp16, rCol_enc, rCol_dec, l3, l2, l1, s53, s54, hj, e1, e2, h4, h6, h7, h8, names_succ s j hj]
          · simp [kp16]
        · have hz : ∀ j (hj : j < s.cols.length), j < k → colErr s j s.cols[j] = 0 := fun j hj hk => by simpa [List.getD, hj] using hgood j hk
          have hkz : ¬ colErr s k s.cols[k] = 0 := by simpa [List.getD, hk] using hbad
          rw [chkGo_run s k (by omega) hz, List.drop_eq_getElem_cons hk, chkGo, if_neg hkz]
          have hce := colErr_eq s k s.cols[k]
          change _ = (if namedE s.cols[k].name (names s k) = 0 then oneE s.cols[k] s.cols.length else namedE s.cols[k].name (names s k)) at hce
          (generalize hLoopQ : Cx.loop _ _ _ = rLoopQ; apply loop_then hLoopQ (fun k => ⟨[(1, .loc 1 0), (6, .sl 1 ((names s k).map rStr.enc) (.tok 6)), (7, .d (DI k))], [(1, [.d (.sl 4 (s.cols.map rCol.enc)), .d (DI s.keep.lo), .d (DI s.keep.hi), .d (DI s.rinse)])], [6]⟩) k rfl; rotate_left; (show _ < 281474976710656; omega); rfl; rotate_left; all_goals clear hLoopQ)
          · intro j hj
            have hj' : j < s.cols.length := by omega
            obtain ⟨e1, e2⟩ := errs_zero hj' (hz j hj' hj)
            have h4 := wrap_small ((j : Int) + 1) (by omega) (by omega)
            have h5 := names_len s j
            have h6 : (names s j).length < 1000000 := by omega
            have h7 : (s.cols.length : Int) < 1000000 := by omega
            have h8 : (names s j).length ≤ 140737488355327 ∧ ((names s j).length + 1) * 16 ≤ 140737488355328 := by omega
            simp [kp16, rCol_enc, rCol_dec, l3, l2, l1, s53, s54, hj', e1, e2, h4, h6, h7, h8, names_succ s j hj']
          · have h5 := names_len s k
            have h6 : (names s k).length < 1000000 := by omega
            have h7 : (s.cols.length : Int) < 1000000 := by omega
            have h8 : (names s k).length ≤ 140737488355327 ∧ ((names s k).length + 1) * 16 ≤ 140737488355328 := by omega
            by_cases e1 : namedE s.cols[k].name (names s k) = 0
            · rw [if_pos e1] at hce
              have e2 : (oneE s.cols[k] s.cols.length != 0) = true := by rw [← hce]; simpa using hkz
              simp [kp16, rCol_enc, rCol_dec, l3, l2, l1, s53, s54, hk, e1, e2, h6, h7, h8, hce]
            · rw [if_neg e1] at hce
              have e1' : (namedE s.cols[k].name (names s k) == 0) = false := by simpa using e1
              have e2 : (namedE s.cols[k].name (names s k) != 0) = true := by simpa using e1
              simp [kp16, rCol_enc, rCol_dec, l3, l2, l1, s53, s54, hk, e1, e1', e2, h6, h7, h8, hce]
    · unfold chkKeep at h2 ⊢
      cases h3 : inR s.rinse 0 10000 with
      | false =>
        simp [kp16, rShp_enc, rShp_dec, rSpn_dec, l3, l2, l1, s51, s52, h1, h3]
      | true =>
        simp [h3] at h2
        have h2' : (spanE s.keep 0 1000 != 0) = true := by simpa using h2
        simp [kp16, rShp_enc, rShp_dec, rSpn_dec, l3, l2, l1, s51, s52, h1, h2, h2', h3]
end Go.Proofs.Ytpkjmnfgpbliaaa
namespace Go.Proofs.Ytpkjmnfgpbliaaa
open Go.RowKit
set_option linter.unusedSimpArgs false
set_option linter.unusedVariables false

theorem call16 (xs : Array Value) (w : World) : (callFunc 16 xs).run Try.prog w = .ok (.enter 16 xs) w := by kernel_rfl
def l4 : List (Nat × (List D → Option D)) := (16, s16) :: l3
theorem del4 : DelOk Try.prog (delOf l4) := del_cons del3 call16 ok16
def rBat : Row Bat := ⟨2, fun x => [DI x.c, DI x.g], fun d => match d with | [.v (.int .i64 a), .v (.int .i64 b)] => some ⟨a, b⟩ | _ => none, fun _ => rfl, fun d x h => by
  split at h
  · cases h; exact LImp.refl _
  · cases h⟩
theorem rBat_enc (x : Bat) : rBat.enc x = [DI x.c, DI x.g] := rfl
theorem rBat_k : rBat.k = 2 := rfl
theorem rBat_dec (x : Bat) : rBat.dec [DI x.c, DI x.g] = some x := rfl
theorem rBat_decL (l : List Bat) : (cList rBat).dec (.sl 2 (l.map rBat.enc)) = some l := cList_dec rBat l 2 rfl
theorem outB_cons (lo hi x : Int) (l : List Int) : outB lo hi (l ++ [x]) = (outB lo hi l || !inR x lo hi) := by
  rw [← outB_inR]; simp [outB]
theorem outB_take (lo hi : Int) (l : List Int) (k : Nat) (h : k < l.length) : outB lo hi (l.take (k + 1)) = (outB lo hi (l.take k) || !inR l[k] lo hi) := by
  rw [List.take_succ_eq_append_getElem h, outB_cons]
/-- The error of a shop and indices of colours. -/
def colE (s : Shp) (l : List Int) : Int := if ¬ (chk s).2.2 = 0 then (chk s).2.2 else if outB 0 ((s.cols.length : Int) - 1) l then 4 else 0
def kp57 (r : Nat) : List (Nat × Option Nat) := match r with
  | 0 => [(1, none), (2, none)]
  | 1 => [(1, none), (2, none), (7, none)]
  | 2 => [(1, none), (2, none), (7, none), (8, none)]
  | 3 => [(1, none), (2, none), (7, none), (8, none), (18, none)]
  | 4 => [(1, none), (2, none), (7, none), (8, none)]
  | 5 => [(1, none), (2, none), (7, none), (8, none), (34, none)]
  | 6 => [(1, none), (2, none), (7, none), (8, none)]
  | 7 => [(4, none)]
  | _ => []
def kp59 (r : Nat) : List (Nat × Option Nat) := match r with
  | 0 => [(2, none), (3, none)]
  | 1 => [(3, none), (12, none)]
  | 2 => [(4, none)]
  | 3 => [(16, none)]
  | 4 => [(4, none)]
  | 5 => [(4, none)]
  | _ => []
def kp73 (r : Nat) : List (Nat × Option Nat) := match r with
  | 0 => [(1, none), (2, none)]
  | 1 => [(1, none), (2, none), (9, none)]
  | 2 => [(4, none)]
  | 3 => [(1, none), (2, none), (5, none)]
  | 4 => [(1, none), (2, none), (5, none), (13, none)]
  | 5 => [(1, none), (2, none), (5, none)]
  | 6 => [(1, none), (2, none), (5, none), (6, none)]
  | 7 => [(1, none), (2, none), (5, none), (6, none), (23, none)]
  | 8 => [(4, none)]
  | 9 => [(4, none)]
  | _ => []
def kp42 (r : Nat) : List (Nat × Option Nat) := match r with
  | 0 => [(0, none), (1, none)]
  | 1 => [(0, none), (1, none), (11, none)]
  | 2 => [(4, none)]
  | 3 => [(0, none), (1, none), (5, none)]
  | 4 => [(0, none), (1, none), (5, none), (14, none)]
  | 5 => [(0, none), (1, none), (5, none)]
  | 6 => [(0, none), (1, none), (5, none), (24, none)]
  | 7 => [(4, none)]
  | 8 => [(0, none), (1, none), (6, none)]
  | 9 => [(0, none), (1, none), (6, none), (27, none)]
  | 10 => [(0, none), (1, none), (6, none)]
  | 11 => [(0, none), (1, none), (6, none), (7, none)]
  | 12 => [(0, none), (1, none), (6, none), (7, none), (32, none)]
  | 13 => [(0, none), (1, none), (6, none), (7, none)]
  | 14 => [(0, none), (1, none), (6, none), (7, none), (43, none)]
  | 15 => [(4, none)]
  | 16 => [(4, none)]
  | _ => []
def s57 : List D → Option D := sp2 (cAgg rShp) (cList rInt) cInt fun s l => if l.length < 1000000 then some (colE s l) else none
theorem ok57 : ∀ ds d, s57 ds = some d → PureC Try.prog 57 ds d := ok_sp2 fun s l r hr => by
  split at hr
  · rename_i hlen
    cases hr
    refine pure_of_call (mkCx_ok del4 36 kp57 []) Try.func57 rfl rfl (Nat.le_of_ble_eq_true rfl) (by kernel_rfl) ?_
    rw [Try.results57]
    by_cases h1 : (chk s).2.2 = 0
    · simp [kp57, rShp_enc, rShp_dec, l4, l3, l2, l1, s16, h1]
      have hg := good_of_chk h1
      have hw := wrap_small ((s.cols.length : Int) - 1) (by omega) (by have := hg.n1; omega)
      have hst : ∀ k, colE s (l.take k) = if outB 0 ((s.cols.length : Int) - 1) (l.take k) then 4 else 0 := fun k => by simp [colE, h1]
      (generalize hLoopQ : Cx.loop _ _ _ = rLoopQ; apply loop_then hLoopQ (fun k => ⟨[(1, .d (.sl 1 (l.map rInt.enc))), (2, .loc 2 0), (7, .d (DI (if outB 0 ((s.cols.length : Int) - 1) (l.take k) then 4 else 0))), (8, .d (DI k))], [(2, [.d (.sl 4 (s.cols.map rCol.enc)), .d (DI s.keep.lo), .d (DI s.keep.hi), .d (DI s.rinse)])], []⟩) l.length rfl; rotate_left; (show _ < 281474976710656; omega); rfl; rotate_left; all_goals clear hLoopQ)
      · intro j hj
        have h2 := wrap_small ((j : Int) + 1) (by omega) (by omega)
        have h3 := outB_take 0 ((s.cols.length : Int) - 1) l j hj
        simp only [h3]
        cases outB 0 ((s.cols.length : Int) - 1) (l.take j) <;> cases h4 : inR l[j] 0 ((s.cols.length : Int) - 1) <;> simp [kp57, l4, l3, l2, l1, s51, hj, h2, hw, h4]
      · simp [kp57, colE, h1, List.take_length]
    · have hst : ∀ k, colE s (l.take k) = (chk s).2.2 := fun k => by simp [colE, h1]
      have h1' : ((chk s).2.2 == 0) = false := by simpa using h1
      simp [kp57, rShp_enc, rShp_dec, l4, l3, l2, l1, s16]
      (generalize hLoopQ : Cx.loop _ _ _ = rLoopQ; apply loop_then hLoopQ (fun k => ⟨[(1, .d (.sl 1 (l.map rInt.enc))), (2, .loc 2 0), (7, .d (DI (chk s).2.2)), (8, .d (DI k))], [(2, [.d (.sl 4 (s.cols.map rCol.enc)), .d (DI s.keep.lo), .d (DI s.keep.hi), .d (DI s.rinse)])], []⟩) l.length rfl; rotate_left; (show _ < 281474976710656; omega); rfl; rotate_left; all_goals clear hLoopQ)
      · intro j hj
        have h2 := wrap_small ((j : Int) + 1) (by omega) (by omega)
        simp [kp57, l4, l3, l2, l1, s51, hj, h2, h1']
      · simp [kp57, colE, h1]
  · cases hr
theorem batErr_eq (s : Shp) (b : Bat) : batErr s b = if inR b.c 0 ((s.cols.length : Int) - 1) = false then 4 else if inR b.g 1 100000 = false then 7 else 0 := by
  unfold batErr; rw [outB_inR, outB_inR]; cases inR b.c 0 ((s.cols.length : Int) - 1) <;> cases inR b.g 1 100000 <;> simp
def s59 : List D → Option D := sp2 (cAgg rShp) (cAgg rBat) cInt fun s b => if s.cols.length < 1000000 then some (batErr s b) else none
theorem ok59 : ∀ ds d, s59 ds = some d → PureC Try.prog 59 ds d := ok_sp2 fun s b r hr => by
  split at hr
  · rename_i hlen
    cases hr
    refine pure_of_call (mkCx_ok del4 17 kp59 []) Try.func59 rfl rfl (Nat.le_of_ble_eq_true rfl) (by kernel_rfl) ?_
    rw [Try.results59]
    have hw := wrap_small ((s.cols.length : Int) - 1) (by omega) (by omega)
    rw [batErr_eq]
    cases h1 : inR b.c 0 ((s.cols.length : Int) - 1) <;> cases h2 : inR b.g 1 100000 <;> simp [kp59, rShp_enc, rBat_enc, l4, l3, l2, l1, s51, hw, h1, h2]
  · cases hr
theorem call57 (xs : Array Value) (w : World) : (callFunc 57 xs).run Try.prog w = .ok (.enter 57 xs) w := by kernel_rfl
theorem call59 (xs : Array Value) (w : World) : (callFunc 59 xs).run Try.prog w = .ok (.enter 59 xs) w := by kernel_rfl
def l5 : List (Nat × (List D → Option D)) := (57, s57) :: (59, s59) :: l4
theorem del5 : DelOk Try.prog (delOf l5) := del_cons (del_cons del4 call59 ok59) call57 ok57
def batsE (s : Shp) (l : List Bat) : Int := if 7 < l.length then 3 else batsErr s l
theorem batsErr_run (s : Shp) (l : List Bat) (k : Nat) (hk : k ≤ l.length) (h : ∀ j (hj : j < l.length), j < k → batErr s l[j] = 0) : batsErr s l = batsErr s (l.drop k) := by
  induction k with
  | zero => rfl
  | succ k ih =>
    rw [ih (by omega) (fun j hj hjk => h j hj (by omega)), List.drop_eq_getElem_cons (show k < l.length by omega), batsErr, if_pos (h k (by omega) (by omega))]
def s73 : List D → Option D := sp2 (cAgg rShp) (cList rBat) cInt fun s l => if s.cols.length < 1000000 then some (batsE s l) else none
theorem ok73 : ∀ ds d, s73 ds = some d → PureC Try.prog 73 ds d := ok_sp2 fun s l r hr => by
  split at hr
  · rename_i hlen
    cases hr
    refine pure_of_call (mkCx_ok del5 25 kp73 []) Try.func73 rfl rfl (Nat.le_of_ble_eq_true rfl) (by kernel_rfl) ?_
    rw [Try.results73]
    unfold batsE
    by_cases h7 : 7 < l.length
    · have h7' : (7 : Int) < l.length := by omega
      simp [kp73, rShp_enc, rBat_k, h7, h7']
    · have h7' : ¬ (7 : Int) < l.length := by omega
      rcases first_not (fun k => batErr s (l.getD k ⟨0, 0⟩) == 0) l.length with hall | ⟨k, hk, hbad, hgood⟩
      · have hz : ∀ j (hj : j < l.length), batErr s l[j] = 0 := fun j hj => by simpa [List.getD, hj] using hall j hj
        rw [batsErr_run s l l.length (Nat.le_refl _) (fun j hj _ => hz j hj), List.drop_length]
        simp [kp73, rShp_enc, rBat_k, h7, h7', batsErr]
        (generalize hLoopQ : Cx.loop _ _ _ = rLoopQ; apply loop_then hLoopQ (fun k => ⟨[(1, .d (.sl 2 (l.map rBat.enc))), (2, .loc 2 0), (5, .d (DI k))], [(2, [.d (.sl 4 (s.cols.map rCol.enc)), .d (DI s.keep.lo), .d (DI s.keep.hi), .d (DI s.rinse)])], []⟩) l.length rfl; rotate_left; (show _ < 281474976710656; omega); rfl; rotate_left; all_goals clear hLoopQ)
        · intro j hj
          have h2 := wrap_small ((j : Int) + 1) (by omega) (by omega)
          simp [kp73, l5, l4, l3, l2, l1, s59, hj, h2, hz j hj, rShp_dec, rBat_dec, rBat_enc, hlen]
        · simp [kp73]
      · have hz : ∀ j (hj : j < l.length), j < k → batErr s l[j] = 0 := fun j hj hk => by simpa [List.getD, hj] using hgood j hk
        have hkz : ¬ batErr s l[k] = 0 := by simpa [List.getD, hk] using hbad
        have hkz' : (batErr s l[k] != 0) = true := by simpa using hkz
        rw [batsErr_run s l k (by omega) hz, List.drop_eq_getElem_cons hk, batsErr, if_neg hkz]
        simp [kp73, rShp_enc, rBat_k, h7, h7']
        (generalize hLoopQ : Cx.loop _ _ _ = rLoopQ; apply loop_then hLoopQ (fun k => ⟨[(1, .d (.sl 2 (l.map rBat.enc))), (2, .loc 2 0), (5, .d (DI k))], [(2, [.d (.sl 4 (s.cols.map rCol.enc)), .d (DI s.keep.lo), .d (DI s.keep.hi), .d (DI s.rinse)])], []⟩) k rfl; rotate_left; (show _ < 281474976710656; omega); rfl; rotate_left; all_goals clear hLoopQ)
        · intro j hj
          have hj' : j < l.length := by omega
          have h2 := wrap_small ((j : Int) + 1) (by omega) (by omega)
          simp [kp73, l5, l4, l3, l2, l1, s59, hj', h2, hz j hj' hj, rShp_dec, rBat_dec, rBat_enc, hlen]
        · simp [kp73, l5, l4, l3, l2, l1, s59, hk, hkz', rShp_dec, rBat_dec, rBat_enc, hlen]
  · cases hr
/-- Nothing in front of a place is the same. -/
def newAt (l : List Int) (i : Nat) : Bool := decide (∀ k, k < i → ¬ l.getD k 0 = l.getD i 0)
theorem nodup_new (l : List Int) : l.Nodup ↔ ∀ i, i < l.length → newAt l i = true := by
  unfold newAt
  rw [List.nodup_iff_pairwise_ne, List.pairwise_iff_getElem]
  constructor
  · intro h i hi
    simp only [decide_eq_true_eq]
    intro k hk
    rw [getD_at _ _ _ hi, getD_at _ _ _ (by omega)]
    exact h k i (by omega) hi hk
  · intro h k i hk hi hki
    have := h i hi
    simp only [decide_eq_true_eq] at this
    have := this k hki
    rwa [getD_at _ _ _ hi, getD_at _ _ _ hk] at this
def orderE (n : Int) (l : List Int) : Int := if ¬ (l.length : Int) = n then 3 else if outB 0 (n - 1) l then 4 else if ¬ l.Nodup then 5 else 0
theorem orderE_eq (n : Nat) (l : List Int) : orderE n l = strangeE n l := by
  unfold orderE strangeE
  by_cases h : l.length = n
  · simp [h]
  · have h' : ¬ (l.length : Int) = n := by omega
    simp [h, h']
def s42 : List D → Option D := sp2 cInt (cList rInt) cInt fun n l => if n < 1000000 then some (orderE n l) else none
theorem ok42 : ∀ ds d, s42 ds = some d → PureC Try.prog 42 ds d := ok_sp2 fun n l r hr => by
  split at hr
  · rename_i hlen
    cases hr
    refine pure_of_call (mkCx_ok del5 44 kp42 []) Try.func42 rfl rfl (Nat.le_of_ble_eq_true rfl) (by kernel_rfl) ?_
    rw [Try.results42]
    unfold orderE
    by_cases hn : (l.length : Int) = n
    · subst hn
      have hw := wrap_small ((l.length : Int) - 1) (by omega) (by omega)
      simp [kp42]
      rcases outB_first 0 ((l.length : Int) - 1) l with ⟨ho, hall⟩ | ⟨ho, k, hk, hbad, hgood⟩
      · (generalize hLoopQ : Cx.loop _ _ _ = rLoopQ; apply loop_then hLoopQ (fun k => ⟨[(0, .d (DI l.length)), (1, .d (.sl 1 (l.map rInt.enc))), (5, .d (DI k))], [], []⟩) l.length rfl; rotate_left; (show _ < 281474976710656; omega); rfl; rotate_left; all_goals clear hLoopQ)
        · intro j hj
          have h2 := wrap_small ((j : Int) + 1) (by omega) (by omega)
          have hn : inR l[j] 0 ((l.length : Int) - 1) = true := by have := hall j hj; rwa [getD_at _ _ _ hj] at this
          simp [kp42, hj, h2, hw, hn, l5, l4, l3, l2, l1, s51]
        · rcases first_not (newAt l) l.length with hdall | ⟨i, hi, hdbad, hdgood⟩
          · have hnd := (nodup_new l).2 hdall
            simp [kp42, ho, hnd]
            (generalize hLoopQ : Cx.loop _ _ _ = rLoopQ; apply loop_then hLoopQ (fun k => ⟨[(0, .d (DI l.length)), (1, .d (.sl 1 (l.map rInt.enc))), (6, .d (DI k))], [], []⟩) l.length rfl; rotate_left; (show _ < 281474976710656; omega); rfl; rotate_left; all_goals clear hLoopQ)
            · intro i hi
              have h2 := wrap_small ((i : Int) + 1) (by omega) (by omega)
              simp [kp42, hi, h2]
              (generalize hLoopQ : Cx.loop _ _ _ = rLoopQ; apply loop_then hLoopQ (fun k => ⟨[(0, .d (DI l.length)), (1, .d (.sl 1 (l.map rInt.enc))), (6, .d (DI i)), (7, .d (DI k))], [], []⟩) i rfl; rotate_left; (show _ < 281474976710656; omega); rfl; rotate_left; all_goals clear hLoopQ)
              · intro j hj
                have hj' : j < l.length := by omega
                have h3 := wrap_small ((j : Int) + 1) (by omega) (by omega)
                have h4 : (l[j] == l[i]) = false := by
                  have := hdall i hi; unfold newAt at this; simp only [decide_eq_true_eq] at this
                  have := this j hj; rw [getD_at _ _ _ hi, getD_at _ _ _ hj'] at this; simpa using this
                simp [kp42, hi, hj, hj', h3, h4]
              · simp [kp42, h2]
            · simp [kp42]
          · have hnd : ¬ l.Nodup := fun h => by have := (nodup_new l).1 h i hi; rw [this] at hdbad; cases hdbad
            simp [kp42, ho, hnd]
            (generalize hLoopQ : Cx.loop _ _ _ = rLoopQ; apply loop_then hLoopQ (fun k => ⟨[(0, .d (DI l.length)), (1, .d (.sl 1 (l.map rInt.enc))), (6, .d (DI k))], [], []⟩) i rfl; rotate_left; (show _ < 281474976710656; omega); rfl; rotate_left; all_goals clear hLoopQ)
            · intro i' hi'
              have hi'' : i' < l.length := by omega
              have h2 := wrap_small ((i' : Int) + 1) (by omega) (by omega)
              simp [kp42, hi'', h2]
              (generalize hLoopQ : Cx.loop _ _ _ = rLoopQ; apply loop_then hLoopQ (fun k => ⟨[(0, .d (DI l.length)), (1, .d (.sl 1 (l.map rInt.enc))), (6, .d (DI i')), (7, .d (DI k))], [], []⟩) i' rfl; rotate_left; (show _ < 281474976710656; omega); rfl; rotate_left; all_goals clear hLoopQ)
              · intro j hj
                have hj' : j < l.length := by omega
                have h3 := wrap_small ((j : Int) + 1) (by omega) (by omega)
                have h4 : (l[j] == l[i']) = false := by
                  have := hdgood i' hi'; unfold newAt at this; simp only [decide_eq_true_eq] at this
                  have := this j hj; rw [getD_at _ _ _ hi'', getD_at _ _ _ hj'] at this; simpa using this
                simp [kp42, hi'', hj, hj', h3, h4]
              · simp [kp42, h2]
            · simp [kp42, hi]
              rcases first_not (fun k => !(l.getD k 0 == l.getD i 0)) i with hkall | ⟨k, hk, hkbad, hkgood⟩
              · exfalso
                have : newAt l i = true := by
                  unfold newAt; simp only [decide_eq_true_eq]; intro k hk; have := hkall k hk; simpa using this
                rw [this] at hdbad; cases hdbad
              · (generalize hLoopQ : Cx.loop _ _ _ = rLoopQ; apply loop_then hLoopQ (fun k => ⟨[(0, .d (DI l.length)), (1, .d (.sl 1 (l.map rInt.enc))), (6, .d (DI i)), (7, .d (DI k))], [], []⟩) k rfl; rotate_left; (show _ < 281474976710656; omega); rfl; rotate_left; all_goals clear hLoopQ)
                · intro j hj
                  have hj' : j < l.length := by omega
                  have hji : j < i := by omega
                  have h3 := wrap_small ((j : Int) + 1) (by omega) (by omega)
                  have h4 : (l[j] == l[i]) = false := by
                    have := hkgood j hj; rw [getD_at _ _ _ hi, getD_at _ _ _ hj'] at this; simpa using this
                  simp [kp42, hi, hj, hj', hji, h3, h4]
                · have hk' : k < l.length := by omega
                  have h4 : (l[k] == l[i]) = true := by
                    rw [getD_at _ _ _ hi, getD_at _ _ _ hk'] at hkbad; simpa using hkbad
                  simp [kp42, hi, hk, hk', h4]
      · (generalize hLoopQ : Cx.loop _ _ _ = rLoopQ; apply loop_then hLoopQ (fun k => ⟨[(0, .d (DI l.length)), (1, .d (.sl 1 (l.map rInt.enc))), (5, .d (DI k))], [], []⟩) k rfl; rotate_left; (show _ < 281474976710656; omega); rfl; rotate_left; all_goals clear hLoopQ)
        · intro j hj
          have hj' : j < l.length := by omega
          have h2 := wrap_small ((j : Int) + 1) (by omega) (by omega)
          have hn : inR l[j] 0 ((l.length : Int) - 1) = true := by have := hgood j hj; rwa [getD_at _ _ _ hj'] at this
          simp [kp42, hj', h2, hw, hn, l5, l4, l3, l2, l1, s51]
        · have hn : inR l[k] 0 ((l.length : Int) - 1) = false := by rwa [getD_at _ _ _ hk] at hbad
          simp [kp42, hk, hw, hn, l5, l4, l3, l2, l1, s51, ho]
    · have hn' : ((l.length : Int) != n) = true := by simpa using hn
      simp [kp42, hn, hn']
  · cases hr
end Go.Proofs.Ytpkjmnfgpbliaaa
