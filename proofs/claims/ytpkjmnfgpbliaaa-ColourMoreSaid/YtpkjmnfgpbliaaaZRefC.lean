/-
  Reference functions of the colour chapter: With, Rush. Conditions: none.
-/
import Derived.Test.YtpkjmnfgpbliaaaZRefB
import Derived.Test.YtpkjmnfgpbliaaaZBestPlain2
namespace Go.Proofs.Ytpkjmnfgpbliaaa
open Go.RowKit
set_option linter.unusedSimpArgs false
set_option linter.unusedVariables false

def kp45 (r : Nat) : List (Nat × Option Nat) := match r with
  | 0 => [(0, none), (1, none), (3, none), (6, none)]
  | 1 => [(3, none), (6, none), (9, none)]
  | 2 => [(8, some 2)]
  | _ => []
def kp27 (r : Nat) : List (Nat × Option Nat) := match r with
  | 0 => [(1, none), (2, none), (3, none), (5, none), (9, none)]
  | 1 => [(1, none), (2, none), (3, none), (5, none), (9, none), (13, none)]
  | 2 => [(1, none), (2, none), (3, none), (5, none), (9, none), (13, none), (24, none)]
  | 3 => [(1, none), (2, none), (3, none), (5, none), (9, none), (13, none)]
  | 4 => [(1, none), (2, none), (3, none), (5, none), (9, none), (13, none), (29, none)]
  | 5 => [(10, none), (11, none), (12, none)]
  | 6 => [(1, none), (2, none), (3, none), (5, none), (9, none), (14, none), (15, none)]
  | 7 => [(1, none), (2, none), (3, none), (5, none), (9, none), (14, none), (15, none), (16, none)]
  | 8 => [(1, none), (2, none), (3, none), (5, none), (9, none), (14, none), (15, none), (16, none), (34, none)]
  | 9 => [(1, none), (2, none), (3, none), (5, none), (9, none), (14, none), (15, none), (16, none)]
  | 10 => [(1, none), (2, none), (3, none), (5, none), (9, none), (14, none), (15, none), (16, none), (17, none)]
  | 11 => [(1, none), (2, none), (3, none), (5, none), (9, none), (14, none), (15, none), (16, none), (17, none), (55, none)]
  | 12 => [(1, none), (2, none), (3, none), (5, none), (9, none), (14, none), (15, none), (16, none)]
  | 13 => [(14, none), (15, none), (59, none)]
  | 14 => [(10, none), (11, none), (12, none)]
  | 15 => [(10, none), (11, none), (12, none)]
  | _ => []
def withL (l : List Bat) (o : List Int) (b : Bat) (k : Nat) : List Bat := (putL l o).take k ++ [b] ++ (putL l o).drop k
def s45 : List D → Option D := sp4 (cList rBat) (cList rInt) (cAgg rBat) cInt (cList rBat) fun l o b k => if putOk l o ∧ 0 ≤ k ∧ k ≤ o.length then some (withL l o b k.toNat) else none
theorem ok45 : ∀ ds d, s45 ds = some d → PureC Try.prog 45 ds d := ok_sp4 fun l o b k res hr => by
  split at hr
  · rename_i hc
    cases hr
    obtain ⟨hp, hk0, hk1⟩ := hc
    obtain ⟨K, rfl⟩ : ∃ B : Nat, k = B := ⟨k.toNat, by omega⟩
    have hK : K ≤ (putL l o).length := by rw [putL_lenR]; omega
    have hlen := hp.2
    have hl := putL_lenR l o
    refine pure_of_call (mkCx_ok del9 25 kp45 []) Try.func45 rfl rfl (Nat.le_of_ble_eq_true rfl) (by kernel_rfl) ?_
    rw [Try.results45]
    unfold withL
    have hK2 : K ≤ o.length := by omega
    have h8 : K ≤ 140737488355328 ∧ K * 16 ≤ 140737488355328 := by omega
    have h9 : K ≤ 140737488355327 ∧ (K + 1) * 16 ≤ 140737488355328 := by omega
    have h10 : K + 1 + (o.length - K) ≤ 140737488355328 ∧ (K + 1 + (o.length - K)) * 16 ≤ 140737488355328 := by omega
    have h11 : List.take (o.length - K) (List.drop K (List.map rBat.enc (putL l o))) = List.drop K (List.map rBat.enc (putL l o)) := List.take_of_length_le (by simp [hl])
    simp [kp45, rBat_enc, rBat_dec, rBat_k, rBat_decL, l9, s44, hp, hK, hK2, hl, h8, h9, h10, h11, List.map_take, List.map_drop]
  · cases hr
theorem call45 (xs : Array Value) (w : World) : (callFunc 45 xs).run Try.prog w = .ok (.enter 45 xs) w := by kernel_rfl
def l10 : List (Nat × (List D → Option D)) := (45, s45) :: l9
theorem del10 : DelOk Try.prog (delOf l10) := del_cons del9 call45 ok45
/-- The first place at which a further batch loses least. -/
def rushF (s : Shp) (st : Int) (l : List Bat) (o : List Int) (b : Bat) (n : Nat) : Option (Nat × Int) := fm (fun k => lossO s st (withL l o b k)) (List.range n)
theorem rushF_succ (s : Shp) (st : Int) (l : List Bat) (o : List Int) (b : Bat) (n : Nat) : rushF s st l o b (n + 1) = better (rushF s st l o b n) ((lossO s st (withL l o b n)).map fun m => (n, m)) := by
  unfold rushF
  rw [List.range_succ, fm_append, fm_cons]
  simp [fm, better_none]
def rushR (s : Shp) (st : Int) (l : List Bat) (o : List Int) (b : Bat) : Int × Int × Int :=
  if ¬ askE s st l o = 0 then (0, 0, askE s st l o) else if ¬ batErr s b = 0 then (0, 0, batErr s b) else
    match rushF s st l o b (l.length + 1) with
    | none => (0, 0, 9)
    | some p => (p.1, p.2, 0)
/-- How the best so far is kept: what the code asks. -/
theorem better_code {α : Type} (x : Option (α × Int)) (a : α) (y : Option Int) (hx : ∀ p, x = some p → 0 ≤ p.2) (hy : ∀ m, y = some m → 0 ≤ m) :
    better x (y.map fun m => (a, m)) = if 0 ≤ y.getD (-1) ∧ ((x.map (·.2)).getD (-1) < 0 ∨ y.getD (-1) < (x.map (·.2)).getD (-1)) then some (a, y.getD (-1)) else x := by
  cases y with
  | none => simp [better_none]
  | some m =>
    have hm := hy m rfl
    cases x with
    | none => simp [none_better, hm]
    | some p =>
      have hp := hx p rfl
      by_cases h : m < p.2
      · simp [better, h, hm]
      · have h' : ¬ p.2 < 0 := by omega
        simp [better, h, hm, h']
def s27 : List D → Option D := sp5 (cAgg rShp) cInt (cList rBat) (cList rInt) (cAgg rBat) (cTup3 cInt cInt cInt) fun s st l o b => some (rushR s st l o b)
theorem ok27 : ∀ ds d, s27 ds = some d → PureC Try.prog 27 ds d := ok_sp5 fun s st l o b res hr => by
  cases hr
  refine pure_of_call (mkCx_ok del10 62 kp27 []) Try.func27 rfl rfl (Nat.le_of_ble_eq_true rfl) (by kernel_rfl) ?_
  rw [Try.results27]
  unfold rushR
  by_cases h1 : askE s st l o = 0
  · obtain ⟨_, _, hc, hs0, hs1, hl7, hb, hol, hob, _⟩ := ask_zero h1
    have hg := good_of_chk hc
    have hlen : s.cols.length < 1000000 := by have := hg.n1; omega
    by_cases h2 : batErr s b = 0
    · have hp : putOk l o := ⟨hob, by omega⟩
      have hwl : ∀ k, (withL l o b k).length = l.length + 1 := by
        intro k; unfold withL; simp [putL_lenR]; omega
      have hwb : ∀ k, batsErr s (withL l o b k) = 0 := by
        intro k
        apply batsErr_all
        intro x hx
        have hput : ∀ x ∈ putL l o, batErr s x = 0 := fun x hx => by
          obtain ⟨i, hi, rfl⟩ := List.getElem_of_mem hx
          exact batErr_of s _ (okBat_all (putL_okR hob hb) i hi)
        unfold withL at hx
        simp only [List.mem_append, List.mem_singleton] at hx
        rcases hx with (hx | rfl) | hx
        · exact hput x (List.mem_of_mem_take hx)
        · exact h2
        · exact hput x (List.mem_of_mem_drop hx)
      have hlo : ∀ k, losOk s st (withL l o b k) := fun k => ⟨hc, hwb k, hs0, hs1, by rw [hwl]; omega⟩
      have hbd : ∀ k m, lossO s st (withL l o b k) = some m → 0 ≤ m := fun k m h => (lossO_bd s hg st ⟨hs0, hs1⟩ _ (fun x hx => by obtain ⟨i, hi, rfl⟩ := List.getElem_of_mem hx; exact okBat_all (hwb k) i hi) h).1
      have hbf : ∀ n p, rushF s st l o b n = some p → 0 ≤ p.2 := fun n p h => hbd p.1 p.2 (fm_mem _ _ _ h).2
      simp [kp27, rShp_enc, rShp_dec, rBat_enc, rBat_dec, rBat_k, rBat_decL, l10, l9, l8, l7, l6, l5, s64, s59, h1, h2, hlen]
      (generalize hLoopQ : Cx.loop _ _ _ = rLoopQ; apply loop_then hLoopQ (fun k => ⟨[(1, .d (DI st)), (2, .d (.sl 2 (l.map rBat.enc))), (3, .d (.sl 1 (o.map rInt.enc))), (5, .loc 5 0), (9, .loc 9 0), (14, .d (DI (((rushF s st l o b k).map fun p => (p.1 : Int)).getD 0))), (15, .d (DI (((rushF s st l o b k).map (·.2)).getD (-1)))), (16, .d (DI k))], [(5, [.d (.sl 4 (s.cols.map rCol.enc)), .d (DI s.keep.lo), .d (DI s.keep.hi), .d (DI s.rinse)]), (9, [.d (DI b.c), .d (DI b.g)])], []⟩) (l.length + 1) rfl; rotate_left; (show _ < 281474976710656; omega); rfl; rotate_left; all_goals clear hLoopQ)
      · intro j hj
        have e1 := wrap_small ((j : Int) + 1) (by omega) (by omega)
        have e2 : (j : Int) ≤ l.length := by omega
        have e3 : (j : Int) ≤ o.length := by omega
        have e4 := lossB_eq s st (withL l o b j)
        have e5 := better_code (rushF s st l o b j) j (lossO s st (withL l o b j)) (hbf j) (hbd j)
        rw [← rushF_succ, ← e4] at e5
        rw [e5]
        generalize rushF s st l o b j = Z
        generalize hn : lossB s st (withL l o b j) = n
        generalize hL : (Z.map (·.2)).getD (-1) = L
        by_cases c1 : 0 ≤ n
        · by_cases c2 : L < 0
          · simp [kp27, rShp_dec, rBat_dec, rBat_k, rBat_decL, l10, s45, l9, s43, hp, e1, e2, e3, hlo j, hn, hL, c1, c2]
          · by_cases c3 : n < L
            · simp [kp27, rShp_dec, rBat_dec, rBat_k, rBat_decL, l10, s45, l9, s43, hp, e1, e2, e3, hlo j, hn, hL, c1, c2, c3]
            · simp [kp27, rShp_dec, rBat_dec, rBat_k, rBat_decL, l10, s45, l9, s43, hp, e1, e2, e3, hlo j, hn, hL, c1, c2, c3]
        · simp [kp27, rShp_dec, rBat_dec, rBat_k, rBat_decL, l10, s45, l9, s43, hp, e1, e2, e3, hlo j, hn, hL, c1]
      · have h5 : ¬ ((l.length : Int) + 1 ≤ l.length) := by omega
        cases hZ : rushF s st l o b (l.length + 1) with
        | none => simp [kp27, h5]
        | some p =>
          have h3 := hbf _ p hZ
          have h4 : ¬ p.2 < 0 := by omega
          simp [kp27, h4, h5]
    · have h2' : (batErr s b != 0) = true := by simpa using h2
      simp [kp27, rShp_enc, rShp_dec, rBat_enc, rBat_dec, rBat_k, rBat_decL, l10, l9, l8, l7, l6, l5, s64, s59, h1, h2, h2', hlen]
  · have h1' : (askE s st l o != 0) = true := by simpa using h1
    have h1'' : (askE s st l o == 0) = false := by simpa using h1
    simp [kp27, rShp_enc, rShp_dec, rBat_enc, rBat_k, rBat_decL, l10, l9, s64, h1, h1', h1'']
end Go.Proofs.Ytpkjmnfgpbliaaa
namespace Go.Proofs.Ytpkjmnfgpbliaaa
open Go.RowKit
set_option linter.unusedSimpArgs false
set_option linter.unusedVariables false

def kp76 (r : Nat) : List (Nat × Option Nat) := match r with
  | 0 => [(0, none)]
  | 1 => [(0, none), (3, none)]
  | 2 => [(0, none), (3, none), (4, none)]
  | 3 => [(0, none), (3, none), (4, none), (7, none)]
  | 4 => [(0, none), (3, none), (4, none)]
  | 5 => [(0, none), (3, none), (4, none)]
  | 6 => [(2, none)]
  | _ => []
def kp97 (r : Nat) : List (Nat × Option Nat) := match r with
  | 0 => [(0, none), (1, none)]
  | 1 => [(4, none)]
  | _ => []
def kp75 (r : Nat) : List (Nat × Option Nat) := match r with
  | 0 => [(0, none), (1, none), (2, none)]
  | 1 => [(0, none), (1, none), (2, none), (7, some 1)]
  | 2 => [(0, none), (1, none), (2, none), (7, some 1), (8, none)]
  | 3 => [(0, none), (1, none), (2, none), (7, some 1), (8, none), (11, none)]
  | 4 => [(0, none), (1, none), (2, none), (7, some 1), (8, none)]
  | 5 => [(0, none), (1, none), (2, none), (7, some 1), (8, none), (18, none)]
  | 6 => [(0, none), (1, none), (2, none), (7, some 1), (8, none)]
  | 7 => [(6, some 1)]
  | _ => []
def kp30 (r : Nat) : List (Nat × Option Nat) := match r with
  | 0 => [(0, none), (1, none)]
  | 1 => [(0, none), (1, none), (10, none)]
  | 2 => [(4, none)]
  | 3 => [(0, none), (1, none), (5, none)]
  | 4 => [(0, none), (1, none), (5, none), (14, none)]
  | 5 => [(0, none), (1, none), (5, none)]
  | 6 => [(0, none), (1, none), (5, none), (25, none)]
  | 7 => [(4, none)]
  | 8 => [(4, none)]
  | _ => []
def kp96 (r : Nat) : List (Nat × Option Nat) := match r with
  | 0 => [(0, none), (1, none)]
  | 1 => [(0, none), (1, none), (10, none)]
  | 2 => [(4, some 1)]
  | 3 => [(0, none), (1, none), (5, some 1)]
  | 4 => [(0, none), (1, none), (5, some 1), (6, none)]
  | 5 => [(0, none), (1, none), (5, some 1), (6, none), (16, none)]
  | 6 => [(0, none), (1, none), (5, some 1), (6, none)]
  | 7 => [(0, none), (1, none), (5, some 1), (6, none), (7, some 1)]
  | 8 => [(0, none), (1, none), (5, some 1), (6, none)]
  | 9 => [(4, some 1)]
  | _ => []
theorem pow2_le {a b : Nat} (h : a ≤ b) : (2 : Int) ^ a ≤ 2 ^ b := by
  have := Nat.pow_le_pow_right (n := 2) (by omega) h
  exact_mod_cast this
theorem pow2_bd {k : Nat} (h : k ≤ 61) : (0 : Int) < 2 ^ k ∧ (2 : Int) ^ k ≤ 2305843009213693952 := by
  have h1 := pow2_le h
  have h2 : (0 : Int) < 2 ^ k := Int.pow_pos (by omega)
  exact ⟨h2, by omega⟩
def s76 : List D → Option D := sp1 cInt cInt fun n => if 0 ≤ n ∧ n ≤ 61 then some (2 ^ n.toNat) else none
theorem ok76 : ∀ ds d, s76 ds = some d → PureC Try.prog 76 ds d := ok_sp1 fun n r hr => by
  split at hr
  · rename_i hc
    cases hr
    obtain ⟨N, rfl⟩ : ∃ B : Nat, n = B := ⟨n.toNat, by omega⟩
    rw [Int.toNat_natCast]
    refine pure_of_call (mkCx_ok del_nil 13 kp76 []) Try.func76 rfl rfl (Nat.le_of_ble_eq_true rfl) (by kernel_rfl) ?_
    rw [Try.results76]
    simp [kp76]
    (generalize hLoopQ : Cx.loop _ _ _ = rLoopQ; apply loop_then hLoopQ (fun k => ⟨[(0, .d (DI N)), (3, .d (DI (2 ^ k))), (4, .d (DI k))], [], []⟩) N rfl; rotate_left; (show _ < 281474976710656; omega); rfl; rotate_left; all_goals clear hLoopQ)
    · intro j hj
      have h1 := wrap_small ((j : Int) + 1) (by omega) (by omega)
      have h2 := pow2_bd (show j + 1 ≤ 61 by omega)
      have h3 : (2 : Int) * 2 ^ j = 2 ^ (j + 1) := by rw [Int.pow_succ, Int.mul_comm]
      have h4 := wrap_small ((2 : Int) ^ (j + 1)) (by omega) (by omega)
      simp [kp76, h1, h3, h4, hj]
    · simp [kp76]
  · cases hr
theorem call76 (xs : Array Value) (w : World) : (callFunc 76 xs).run Try.prog w = .ok (.enter 76 xs) w := by kernel_rfl
def m1 : List (Nat × (List D → Option D)) := [(76, s76)]
theorem dem1 : DelOk Try.prog (delOf m1) := del_cons del_nil call76 ok76
def s97 : List D → Option D := sp2 cInt cInt cBool fun st k => if (0 ≤ st ∧ st ≤ 9223372036854775807) ∧ 0 ≤ k ∧ k ≤ 61 then some (st.toNat.testBit k.toNat) else none
theorem ok97 : ∀ ds d, s97 ds = some d → PureC Try.prog 97 ds d := ok_sp2 fun st k r hr => by
  split at hr
  · rename_i hc
    cases hr
    obtain ⟨⟨hs0, hs1⟩, hk0, hk1⟩ := hc
    obtain ⟨K, rfl⟩ : ∃ B : Nat, k = B := ⟨k.toNat, by omega⟩
    obtain ⟨S, rfl⟩ : ∃ B : Nat, st = B := ⟨st.toNat, by omega⟩
    simp only [Int.toNat_natCast]
    have h1 := pow2_bd (show K ≤ 61 by omega)
    have e1 : (S : Int).tdiv (2 ^ K) = ((S / 2 ^ K : Nat) : Int) := by
      rw [Int.tdiv_eq_ediv_of_nonneg (by omega)]; push_cast; rfl
    have h2 : S / 2 ^ K ≤ S := Nat.div_le_self _ _
    have e3 : S.testBit K = (((S / 2 ^ K % 2 : Nat) : Int) == 1) := by
      rw [Nat.testBit_eq_decide_div_mod_eq, Bool.eq_iff_iff]
      generalize S / 2 ^ K = Q
      simp
      omega
    rw [e3]
    generalize S / 2 ^ K = Q at *
    have w1 := wrap_small (Q : Int) (by omega) (by omega)
    have e2 : (Q : Int).tmod 2 = ((Q % 2 : Nat) : Int) := by
      rw [Int.tmod_eq_emod_of_nonneg (by omega)]; push_cast; rfl
    have w2 := wrap_small ((Q % 2 : Nat) : Int) (by omega) (by omega)
    have hne : ¬ (2 : Int) ^ K = 0 := by omega
    have hk2 : (K : Int) ≤ 61 := hk1
    refine pure_of_call (mkCx_ok dem1 11 kp97 []) Try.func97 rfl rfl (Nat.le_of_ble_eq_true rfl) (by kernel_rfl) ?_
    rw [Try.results97]
    simp [kp97, m1, s76, hk2, hne, e1, e2, w1, w2]
  · cases hr
theorem call97 (xs : Array Value) (w : World) : (callFunc 97 xs).run Try.prog w = .ok (.enter 97 xs) w := by kernel_rfl
def m2 : List (Nat × (List D → Option D)) := (97, s97) :: m1
theorem dem2 : DelOk Try.prog (delOf m2) := del_cons dem1 call97 ok97
/-- The numbers below another one that are in a set, or are not. -/
def partL (st n : Nat) (is : Bool) : List Int := ((List.range n).filter fun i => st.testBit i == is).map fun i : Nat => (i : Int)
theorem partL_succ (st n : Nat) (is : Bool) : partL st (n + 1) is = if st.testBit n == is then partL st n is ++ [(n : Int)] else partL st n is := by
  unfold partL
  rw [List.range_succ, List.filter_append, List.map_append]
  cases h : (st.testBit n == is) <;> simp [h]
theorem partL_len (st n : Nat) (is : Bool) : (partL st n is).length ≤ n := by
  unfold partL
  rw [List.length_map]
  exact Nat.le_trans (List.length_filter_le _ _) (by simp)
def s75 : List D → Option D := sp3 cInt cInt cBool (cList rInt) fun st n is => if (0 ≤ st ∧ st ≤ 9223372036854775807) ∧ 0 ≤ n ∧ n ≤ 61 then some (partL st.toNat n.toNat is) else none
theorem ok75 : ∀ ds d, s75 ds = some d → PureC Try.prog 75 ds d := ok_sp3 fun st n is r hr => by
  split at hr
  · rename_i hc
    cases hr
    obtain ⟨⟨hs0, hs1⟩, hk0, hk1⟩ := hc
    obtain ⟨N, rfl⟩ : ∃ B : Nat, n = B := ⟨n.toNat, by omega⟩
    obtain ⟨S, rfl⟩ : ∃ B : Nat, st = B := ⟨st.toNat, by omega⟩
    simp only [Int.toNat_natCast]
    refine pure_of_call (mkCx_ok dem2 24 kp75 []) Try.func75 rfl rfl (Nat.le_of_ble_eq_true rfl) (by kernel_rfl) ?_
    rw [Try.results75]
    simp [kp75]
    (generalize hLoopQ : Cx.loop _ _ _ = rLoopQ; apply loop_then hLoopQ (fun k => ⟨[(0, .d (DI S)), (1, .d (DI N)), (2, .d (DB is)), (7, .sl 1 ((partL S k is).map rInt.enc) (.tok 7)), (8, .d (DI k))], [], [7]⟩) N rfl; rotate_left; (show _ < 281474976710656; omega); rfl; rotate_left; all_goals clear hLoopQ)
    · intro j hj
      have h1 := wrap_small ((j : Int) + 1) (by omega) (by omega)
      have h2 : (j : Int) ≤ 61 := by omega
      have h3 := partL_len S j is
      have h4 : ((partL S j is).length + 1) * 8 ≤ 140737488355328 := by omega
      have h4' : (partL S j is).length ≤ 140737488355327 := by omega
      have h5 := partL_succ S j is
      have h6 : (S : Int) ≤ 9223372036854775807 := hs1
      cases h7 : (S.testBit j == is) <;> rw [h7] at h5 <;> simp at h5 <;> simp [kp75, m2, s97, hj, h1, h2, h4, h4', h5, h6, h7]
    · simp [kp75]
  · cases hr
def s30 : List D → Option D := sp2 (cList rInt) (cList rInt) cBool fun a b => if a.length < 1000 then some (a == b) else none
theorem ok30 : ∀ ds d, s30 ds = some d → PureC Try.prog 30 ds d := ok_sp2 fun a b r hr => by
  split at hr
  · rename_i hc
    cases hr
    refine pure_of_call (mkCx_ok del_nil 26 kp30 []) Try.func30 rfl rfl (Nat.le_of_ble_eq_true rfl) (by kernel_rfl) ?_
    rw [Try.results30]
    by_cases hl : a.length = b.length
    · have hl' : ((a.length : Int) != (b.length : Int)) = false := by rw [hl]; simp
      simp [kp30, hl, hl']
      rcases first_not (fun k => a.getD k 0 == b.getD k 0) a.length with hall | ⟨k, hk, hbad, hgood⟩
      · have he : a = b := List.ext_getElem hl fun i h1 h2 => by
          have := hall i h1
          rw [getD_at _ _ _ h1, getD_at _ _ _ h2] at this
          simpa using this
        subst he
        (generalize hLoopQ : Cx.loop _ _ _ = rLoopQ; apply loop_then hLoopQ (fun k => ⟨[(0, .d (.sl 1 (a.map rInt.enc))), (1, .d (.sl 1 (a.map rInt.enc))), (5, .d (DI k))], [], []⟩) a.length rfl; rotate_left; (show _ < 281474976710656; omega); rfl; rotate_left; all_goals clear hLoopQ)
        · intro j hj
          have h1 := wrap_small ((j : Int) + 1) (by omega) (by omega)
          simp [kp30, hj, h1]
        · simp [kp30]
      · have hkb : k < b.length := by omega
        have hne : (a[k] != b[k]) = true := by
          rw [getD_at _ _ _ hk, getD_at _ _ _ hkb] at hbad
          simpa using hbad
        have he : (a == b) = false := by
          rw [beq_eq_false_iff_ne]
          intro e; subst e; simp at hne
        rw [he]
        (generalize hLoopQ : Cx.loop _ _ _ = rLoopQ; apply loop_then hLoopQ (fun k => ⟨[(0, .d (.sl 1 (a.map rInt.enc))), (1, .d (.sl 1 (b.map rInt.enc))), (5, .d (DI k))], [], []⟩) k rfl; rotate_left; (show _ < 281474976710656; omega); rfl; rotate_left; all_goals clear hLoopQ)
        · intro j hj
          have hja : j < a.length := by omega
          have hjb : j < b.length := by omega
          have hjb' : (j : Int) < b.length := by omega
          have h1 := wrap_small ((j : Int) + 1) (by omega) (by omega)
          have h2 : (a[j] != b[j]) = false := by
            have := hgood j hj
            rw [getD_at _ _ _ hja, getD_at _ _ _ hjb] at this
            simpa [bne] using this
          simp [kp30, hja, hjb, h1, h2]
        · simp [kp30, hk, hkb, hne]
    · have hl' : ((a.length : Int) != (b.length : Int)) = true := by
        have : ¬ (a.length : Int) = b.length := by omega
        simpa using this
      have he : (a == b) = false := by
        rw [beq_eq_false_iff_ne]
        intro e; subst e; exact hl rfl
      simp [kp30, hl', he]
  · cases hr
/-- Lists of lists. -/
def rSl {α : Type} (r : Row α) : Row (List α) := ⟨1, fun l => [.sl r.k (l.map r.enc)], fun d => match d with | [e] => (cList r).dec e | _ => none, fun l => cList_dec r l r.k rfl, fun d x h => by
  split at h
  · exact ⟨_, _, rfl, (cList r).ed _ _ h, rfl⟩
  · cases h⟩
theorem rSlI_enc (l : List Int) : (rSl rInt).enc l = [.sl 1 (l.map rInt.enc)] := rfl
theorem rSlI_k : (rSl rInt).k = 1 := rfl
theorem rSlI_decL (l : List (List Int)) : (cList (rSl rInt)).dec (.sl 1 (l.map (rSl rInt).enc)) = some l := cList_dec (rSl rInt) l 1 rfl
theorem permsF_bd : ∀ (n : Nat) (l : List Int), l.length ≤ 8 → (permsF n l).length ≤ 8 ^ n
  | 0, l, _ => by simp [permsF]
  | n + 1, l, h => by
    rw [permsF]
    have key : ∀ t : List Int, (t.flatMap fun x => (permsF n (l.filter (· != x))).map (x :: ·)).length ≤ t.length * 8 ^ n := by
      intro t
      induction t with
      | nil => simp
      | cons x t ih =>
        rw [List.flatMap_cons, List.length_append, List.length_map, List.length_cons, Nat.succ_mul]
        have := permsF_bd n (l.filter (· != x)) (Nat.le_trans (List.length_filter_le _ _) h)
        omega
    have := key l
    have h2 : l.length * 8 ^ n ≤ 8 * 8 ^ n := Nat.mul_le_mul_right _ h
    rw [Nat.pow_succ]
    omega
theorem without (l : List Int) (hd : l.Nodup) (i : Nat) (hi : i < l.length) : l.take i ++ l.drop (i + 1) = l.filter (· != l[i]) := by
  have hl : l.take i ++ l[i] :: l.drop (i + 1) = l := by rw [← List.drop_eq_getElem_cons hi, List.take_append_drop]
  have hp := List.pairwise_iff_getElem.1 hd
  have h1 : ∀ y ∈ l.take i, ¬ y = l[i] := by
    intro y hy
    obtain ⟨j, hj, rfl⟩ := List.getElem_of_mem hy
    have hj' : j < i ∧ j < l.length := by simp at hj; omega
    rw [List.getElem_take]
    exact hp j i hj'.2 hi hj'.1
  have h2 : ∀ y ∈ l.drop (i + 1), ¬ y = l[i] := by
    intro y hy
    obtain ⟨j, hj, rfl⟩ := List.getElem_of_mem hy
    have hj' : i + 1 + j < l.length := by simp at hj; omega
    rw [List.getElem_drop]
    exact fun e => hp i (i + 1 + j) hi hj' (by omega) e.symm
  generalize l[i] = x at *
  have e : l.filter (· != x) = (l.take i ++ x :: l.drop (i + 1)).filter (· != x) := by rw [hl]
  rw [e, List.filter_append, List.filter_cons]
  rw [List.filter_eq_self.2 (fun y hy => by simpa using h1 y hy), List.filter_eq_self.2 (fun y hy => by simpa using h2 y hy)]
  simp
/-- The orders that have been found after so many numbers. -/
def ordK (bg ns : List Int) (k : Nat) : List (List Int) := (ns.take k).flatMap fun x => (permsF (ns.length - 1) (ns.filter (· != x))).map fun p => bg ++ x :: p
theorem ordK_succ (bg ns : List Int) (k : Nat) (hk : k < ns.length) : ordK bg ns (k + 1) = ordK bg ns k ++ (permsF (ns.length - 1) (ns.filter (· != ns[k]))).map fun p => bg ++ ns[k] :: p := by
  unfold ordK
  rw [List.take_succ_eq_append_getElem hk, List.flatMap_append]
  simp
theorem ordK_end (bg ns : List Int) (h : 0 < ns.length) : ordK bg ns ns.length = (permsF ns.length ns).map (bg ++ ·) := by
  unfold ordK
  rw [List.take_length]
  obtain ⟨n, hn⟩ : ∃ n, ns.length = n + 1 := ⟨ns.length - 1, by omega⟩
  rw [hn, permsF, List.map_flatMap]
  simp [Function.comp_def]
theorem ordK_len (bg ns : List Int) (h : ns.length ≤ 8) (k : Nat) : (ordK bg ns k).length ≤ k * 8 ^ (ns.length - 1) := by
  induction k with
  | zero => simp [ordK]
  | succ k ih =>
    by_cases hk : k < ns.length
    · rw [ordK_succ bg ns k hk, List.length_append, List.length_map, Nat.succ_mul]
      have := permsF_bd (ns.length - 1) (ns.filter (· != ns[k])) (Nat.le_trans (List.length_filter_le _ _) h)
      omega
    · have : ordK bg ns (k + 1) = ordK bg ns k := by
        unfold ordK
        rw [List.take_of_length_le (by omega), List.take_of_length_le (by omega)]
      rw [this, Nat.succ_mul]
      generalize 8 ^ (ns.length - 1) = E at *
      omega
def ordersOk (bg ns : List Int) : Prop := ns.length ≤ 7 ∧ ns.Nodup ∧ bg.length + ns.length ≤ 100
instance (bg ns : List Int) : Decidable (ordersOk bg ns) := inferInstanceAs (Decidable (_ ∧ _))
def s96 (k : Nat) : List D → Option D := sp2 (cList rInt) (cList rInt) (cList (rSl rInt)) fun bg ns => if ns.length ≤ k ∧ ordersOk bg ns then some ((permsF ns.length ns).map (bg ++ ·)) else none
theorem call96 (xs : Array Value) (w : World) : (callFunc 96 xs).run Try.prog w = .ok (.enter 96 xs) w := by kernel_rfl
theorem ok96 : ∀ k, ∀ ds d, s96 k ds = some d → PureC Try.prog 96 ds d := by
  intro k
  induction k with
  | zero =>
    refine ok_sp2 fun bg ns r hr => ?_
    split at hr
    · rename_i hc
      cases hr
      have hn : ns = [] := List.length_eq_zero_iff.1 (by omega)
      subst hn
      refine pure_of_call (mkCx_ok del_nil 43 kp96 []) Try.func96 rfl rfl (Nat.le_of_ble_eq_true rfl) (by kernel_rfl) ?_
      rw [Try.results96]
      simp [kp96, permsF, rSlI_enc, rSlI_k]
    · cases hr
  | succ k ih =>
    refine ok_sp2 fun bg ns r hr => ?_
    split at hr
    · rename_i hc
      cases hr
      obtain ⟨hk, h7, hd, hb⟩ := hc
      have dem3 : DelOk Try.prog (delOf [(96, s96 k)]) := del_cons del_nil call96 ih
      refine pure_of_call (mkCx_ok dem3 43 kp96 []) Try.func96 rfl rfl (Nat.le_of_ble_eq_true rfl) (by kernel_rfl) ?_
      rw [Try.results96]
      by_cases h0 : ns.length = 0
      · have hn : ns = [] := List.length_eq_zero_iff.1 h0
        subst hn
        simp [kp96, permsF, rSlI_enc, rSlI_k]
      · rw [← ordK_end bg ns (by omega)]
        have h0' : ((ns.length : Int) == 0) = false := by rw [beq_eq_false_iff_ne]; omega
        simp [kp96, h0', rSlI_k]
        (generalize hLoopQ : Cx.loop _ _ _ = rLoopQ; apply loop_then hLoopQ (fun j => ⟨[(0, .d (.sl 1 (bg.map rInt.enc))), (1, .d (.sl 1 (ns.map rInt.enc))), (5, .sl 1 ((ordK bg ns j).map (rSl rInt).enc) (.tok 5)), (6, .d (DI j))], [], [5]⟩) ns.length rfl; rotate_left; (show _ < 281474976710656; omega); rfl; rotate_left; all_goals clear hLoopQ)
        · intro j hj
          have h1 := wrap_small ((j : Int) + 1) (by omega) (by omega)
          have hw := without ns hd j hj
          have hfl : (ns.filter (· != ns[j])).length = ns.length - 1 := by rw [← hw, List.length_append, List.length_take, List.length_drop]; omega
          have a1 : List.take (ns.length - (j + 1)) (List.drop (j + 1) (ns.map rInt.enc)) = List.drop (j + 1) (ns.map rInt.enc) := List.take_of_length_le (by simp)
          have a2 : List.take j (ns.map rInt.enc) ++ List.drop (j + 1) (ns.map rInt.enc) = (ns.filter (· != ns[j])).map rInt.enc := by rw [← hw, List.map_append, List.map_take, List.map_drop]
          have a3 : (cList rInt).dec (.sl 1 (bg.map rInt.enc ++ [[DI ns[j]]])) = some (bg ++ [ns[j]]) := by
            have := rInt_decL (bg ++ [ns[j]])
            rwa [List.map_append] at this
          have a4 : (ns.filter (· != ns[j])).length ≤ k ∧ ordersOk (bg ++ [ns[j]]) (ns.filter (· != ns[j])) := ⟨by omega, by omega, hd.filter _, by rw [List.length_append, hfl]; simp; omega⟩
          have a5 : ((permsF (ns.filter (· != ns[j])).length (ns.filter (· != ns[j]))).map ((bg ++ [ns[j]]) ++ ·)) = (permsF (ns.length - 1) (ns.filter (· != ns[j]))).map fun p => bg ++ ns[j] :: p := by rw [hfl]; simp
          have a6 := ordK_len bg ns (by omega) j
          have a7 := permsF_bd (ns.length - 1) (ns.filter (· != ns[j])) (by omega)
          have a8 : 8 ^ (ns.length - 1) ≤ 8 ^ 6 := Nat.pow_le_pow_right (by omega) (by omega)
          have a9 : j * 8 ^ (ns.length - 1) ≤ 7 * 8 ^ 6 := Nat.mul_le_mul (by omega) a8
          have hj1 : j + 1 ≤ ns.length := by omega
          have hj2 := ordK_succ bg ns j hj
          have hj3 : j ≤ ns.length := by omega
          have a4' : ns.length - 1 ≤ k := by omega
          have c1 : (0 : Int) ≤ (j : Int) + 1 := by omega
          have c2 : (j : Int) + 1 ≤ ns.length := by omega
          have b1 : j ≤ 140737488355328 := by omega
          have b2 : j * 8 ≤ 140737488355328 := by omega
          have b3 : j + (ns.length - (j + 1)) ≤ 140737488355328 := by omega
          have b4 : (j + (ns.length - (j + 1))) * 8 ≤ 140737488355328 := by omega
          have b5 : bg.length ≤ 140737488355328 := by omega
          have b6 : bg.length * 8 ≤ 140737488355328 := by omega
          have b7 : bg.length ≤ 140737488355327 := by omega
          have b8 : (bg.length + 1) * 8 ≤ 140737488355328 := by omega
          have b9 : (ordK bg ns j).length + (permsF (ns.length - 1) (ns.filter (· != ns[j]))).length ≤ 140737488355328 := by omega
          have b10 : ((ordK bg ns j).length + (permsF (ns.length - 1) (ns.filter (· != ns[j]))).length) * 24 ≤ 140737488355328 := by omega
          simp [kp96, s96, rSlI_k, hj, h1, hj1, hj3, c1, c2, b1, b2, b3, b4, b5, b6, b7, b8, b9, b10, a1, a2, a3, a4, a4', hfl, hj2]
        · simp [kp96, rSlI_k]
    · cases hr
end Go.Proofs.Ytpkjmnfgpbliaaa
namespace Go.Proofs.Ytpkjmnfgpbliaaa
open Go.RowKit
set_option linter.unusedSimpArgs false
set_option linter.unusedVariables false

def kp74 (r : Nat) : List (Nat × Option Nat) := match r with
  | 0 => [(1, none), (2, none), (3, none), (4, none)]
  | 1 => [(1, none), (2, none), (3, none), (4, none), (10, none)]
  | 2 => [(1, none), (2, none), (3, none), (4, none), (10, none), (11, none)]
  | 3 => [(1, none), (2, none), (4, none), (10, none), (11, none), (12, none)]
  | 4 => [(1, none), (2, none), (4, none), (10, none), (11, none), (12, none), (13, none)]
  | 5 => [(1, none), (2, none), (4, none), (10, none), (11, none), (12, none), (13, none), (20, none)]
  | 6 => [(1, none), (2, none), (4, none), (10, none), (11, none), (12, none), (13, none)]
  | 7 => [(1, none), (2, none), (4, none), (10, none), (11, none), (12, none), (13, none), (14, none)]
  | 8 => [(1, none), (2, none), (4, none), (10, none), (11, none), (12, none), (13, none), (14, none), (42, none)]
  | 9 => [(1, none), (2, none), (4, none), (10, none), (11, none), (12, none), (13, none)]
  | 10 => [(8, none), (9, none)]
  | _ => []
def kp29 (r : Nat) : List (Nat × Option Nat) := match r with
  | 0 => [(1, none), (2, none), (3, none)]
  | 1 => [(1, none), (2, none), (3, none), (9, none)]
  | 2 => [(1, none), (2, none), (3, none), (9, none), (17, none)]
  | 3 => [(1, none), (2, none), (3, none), (9, none)]
  | 4 => [(1, none), (2, none), (3, none), (9, none), (22, none)]
  | 5 => [(6, none), (7, none), (8, none)]
  | 6 => [(10, none), (11, none)]
  | 7 => [(10, none), (11, none), (35, none)]
  | 8 => [(6, none), (7, none), (8, none)]
  | 9 => [(6, none), (7, none), (8, none)]
  | _ => []
theorem call75 (xs : Array Value) (w : World) : (callFunc 75 xs).run Try.prog w = .ok (.enter 75 xs) w := by kernel_rfl
def l11 : List (Nat × (List D → Option D)) := (96, s96 7) :: (75, s75) :: l10
theorem del11 : DelOk Try.prog (delOf l11) := del_cons (del_cons del10 call75 ok75) call96 (ok96 7)
/-- The best order of some numbers, and what it loses (-1: there is none). -/
def leastP (x : Option (List Int × Int)) : List Int × Int := x.getD ([], -1)
def leastOk (s : Shp) (st : Int) (l : List Bat) (ns : List Int) : Prop := losOk s st l ∧ l.length ≤ 7 ∧ ns.length ≤ 7 ∧ ns.Nodup ∧ outB 0 ((l.length : Int) - 1) ns = false
instance (s : Shp) (st : Int) (l : List Bat) (ns : List Int) : Decidable (leastOk s st l ns) := inferInstanceAs (Decidable (_ ∧ _))
def s74 : List D → Option D := sp4 (cAgg rShp) cInt (cList rBat) (cList rInt) (cTup2 (cList rInt) cInt) fun s st l ns => if leastOk s st l ns then some (leastP (fm (ordO s l st) (permsL ns))) else none
def fmK (s : Shp) (st : Int) (l : List Bat) (all : List (List Int)) (k : Nat) : Option (List Int × Int) := fm (ordO s l st) (all.take k)
theorem fmK_succ (s : Shp) (st : Int) (l : List Bat) (all : List (List Int)) (k : Nat) (h : k < all.length) : fmK s st l all (k + 1) = better (fmK s st l all k) ((ordO s l st all[k]).map fun m => (all[k], m)) := by
  unfold fmK
  rw [List.take_succ_eq_append_getElem h, fm_append, fm_cons]
  simp [fm, better_none]
def bestD : Option (List Int × Int) → D
  | none => .sl 0 []
  | some p => .sl 1 (p.1.map rInt.enc)
theorem bestD_none : bestD none = .sl 0 [] := rfl
theorem bestD_some (p : List Int × Int) : bestD (some p) = .sl 1 (p.1.map rInt.enc) := rfl
theorem ok74 : ∀ ds d, s74 ds = some d → PureC Try.prog 74 ds d := ok_sp4 fun s st l ns r hr => by
  split at hr
  · rename_i hc
    cases hr
    obtain ⟨⟨hc1, hc2, hs0, hs1, hl3⟩, hl7, hn7, hnd, hob⟩ := hc
    have hg := good_of_chk hc1
    have hall : ∀ o ∈ permsL ns, putOk l o ∧ losOk s st (putL l o) := by
      intro o ho
      have hp := (permsF_mem ns.length ns o rfl hnd).1 ho
      have hob' : outB 0 ((l.length : Int) - 1) o = false := by
        rw [outB_all]
        intro i hi
        rw [getD_at _ _ _ hi]
        have : o[i] ∈ ns := hp.mem_iff.1 (List.getElem_mem hi)
        obtain ⟨j, hj, e⟩ := List.getElem_of_mem this
        have := (outB_all _ _ _).1 hob j hj
        rw [getD_at _ _ _ hj] at this
        rw [← e]; exact this
      have hlen := hp.length_eq
      exact ⟨⟨hob', by omega⟩, hc1, putL_okR hob' hc2, hs0, hs1, by rw [putL_lenR]; omega⟩
    have hbd : ∀ o ∈ permsL ns, ∀ m, ordO s l st o = some m → 0 ≤ m := fun o ho m h => (lossO_bd s hg st ⟨hs0, hs1⟩ _ (fun x hx => by obtain ⟨i, hi, rfl⟩ := List.getElem_of_mem hx; exact okBat_all (hall o ho).2.2.1 i hi) h).1
    have hbf : ∀ k p, fmK s st l (permsL ns) k = some p → 0 ≤ p.2 := fun k p h => by
      obtain ⟨h1, h2⟩ := fm_mem _ _ _ h
      exact hbd p.1 (List.mem_of_mem_take h1) p.2 h2
    have hpl : (permsL ns).length ≤ 8 ^ 7 := Nat.le_trans (permsF_bd ns.length ns (by omega)) (Nat.pow_le_pow_right (by omega) hn7)
    have hoo : ns.length ≤ 7 ∧ ordersOk [] ns := ⟨hn7, hn7, hnd, by simp; omega⟩
    have hpe : (permsF ns.length ns).map (([] : List Int) ++ ·) = permsL ns := by simp [permsL]
    refine pure_of_dec (cTup2 (cList rInt) cInt) _ (mkCx_ok del11 50 kp74 []) Try.func74 rfl rfl (Nat.le_of_ble_eq_true rfl) (by kernel_rfl) ?_
    rw [Try.results74]
    simp [kp74, rShp_enc, rBat_k, l11, s96, hoo]
    rw [show permsF ns.length ns = permsL ns from rfl]
    generalize hA : permsL ns = all at *
    (generalize hLoopQ : Cx.loop _ _ _ = rLoopQ; apply loop_then hLoopQ (fun k => ⟨[(1, .d (DI st)), (2, .d (.sl 2 (l.map rBat.enc))), (4, .loc 4 0), (10, .d (bestD (fmK s st l all k))), (11, .d (DI (((fmK s st l all k).map (·.2)).getD (-1)))), (12, .d (.sl 1 (all.map (rSl rInt).enc))), (13, .d (DI k))], [(4, [.d (.sl 4 (s.cols.map rCol.enc)), .d (DI s.keep.lo), .d (DI s.keep.hi), .d (DI s.rinse)])], []⟩) all.length rfl; rotate_left; (show _ < 281474976710656; omega); rfl; rotate_left; all_goals clear hLoopQ)
    · intro j hj
      have h1 := wrap_small ((j : Int) + 1) (by omega) (by omega)
      have hm : all[j] ∈ all := List.getElem_mem hj
      obtain ⟨e1, e2⟩ := hall _ hm
      have e4 := lossB_eq s st (putL l all[j])
      have e5 := better_code (fmK s st l all j) all[j] (ordO s l st all[j]) (hbf j) (hbd _ hm)
      rw [← fmK_succ s st l all j hj, show ordO s l st all[j] = lossO s st (putL l all[j]) from rfl, ← e4] at e5
      rw [e5]
      generalize fmK s st l all j = Z
      generalize hn : lossB s st (putL l all[j]) = n
      generalize hL : (Z.map (·.2)).getD (-1) = L
      by_cases c1 : 0 ≤ n
      · by_cases c2 : L < 0
        · simp [kp74, rShp_dec, rBat_k, rBat_decL, rSlI_enc, l11, l10, l9, s43, s44, hj, h1, e1, e2, hn, hL, c1, c2, bestD_none, bestD_some]
        · by_cases c3 : n < L <;> simp [kp74, rShp_dec, rBat_k, rBat_decL, rSlI_enc, l11, l10, l9, s43, s44, hj, h1, e1, e2, hn, hL, c1, c2, c3, bestD_none, bestD_some]
      · simp [kp74, rShp_dec, rBat_k, rBat_decL, rSlI_enc, l11, l10, l9, s43, s44, hj, h1, e1, e2, hn, hL, c1, bestD_none, bestD_some]
    · have hF : fmK s st l all all.length = fm (ordO s l st) all := by unfold fmK; rw [List.take_length]
      rw [← hF]
      cases hZ : fmK s st l all all.length with
      | none => simp [kp74, leastP, bestD_none, bestD_some]
      | some p => simp [kp74, leastP, bestD_none, bestD_some]
  · cases hr
theorem call74 (xs : Array Value) (w : World) : (callFunc 74 xs).run Try.prog w = .ok (.enter 74 xs) w := by kernel_rfl
def l12 : List (Nat × (List D → Option D)) := (76, s76) :: (74, s74) :: l11
theorem del12 : DelOk Try.prog (delOf l12) := del_cons (del_cons del11 call74 ok74) call76 ok76
theorem partL_nodup (st n : Nat) (is : Bool) : (partL st n is).Nodup := by
  unfold partL
  refine List.Pairwise.map (S := (· ≠ ·)) (fun i : Nat => (i : Int)) (fun a b h => ?_) (List.nodup_range.filter _)
  have h' : ¬ a = b := h
  show ¬ (a : Int) = (b : Int)
  omega
theorem partL_out (st n : Nat) (is : Bool) : outB 0 ((n : Int) - 1) (partL st n is) = false := by
  rw [outB_all]
  intro i hi
  rw [getD_at _ _ _ hi]
  have : (partL st n is)[i] ∈ partL st n is := List.getElem_mem hi
  generalize (partL st n is)[i] = x at *
  unfold partL at this
  simp only [List.mem_map, List.mem_filter, List.mem_range] at this
  obtain ⟨j, ⟨h1, _⟩, h2⟩ := this
  omega
/-- What Best of the reference returns. -/
def refBest (s : Shp) (st : Int) (l : List Bat) : List Int × Int × Int :=
  if ¬ openErr s l [st] = 0 then ([], 0, openErr s l [st]) else
    match fm (ordO s l st) (permsL (partL 0 l.length false)) with
    | none => ([], 0, 9)
    | some p => (p.1, p.2, 0)
theorem least_part {s : Shp} {st : Int} {l : List Bat} (hc : (chk s).2.2 = 0) (hb : batsErr s l = 0) (h0 : 0 ≤ st) (h1 : st < s.cols.length) (h7 : l.length ≤ 7) (set : Nat) (is : Bool) : leastOk s st l (partL set l.length is) :=
  ⟨⟨hc, hb, h0, h1, by omega⟩, h7, Nat.le_trans (partL_len _ _ _) h7, partL_nodup _ _ _, partL_out _ _ _⟩
theorem ordO_bd {s : Shp} {st : Int} {l : List Bat} (hc : (chk s).2.2 = 0) (hb : batsErr s l = 0) (h0 : 0 ≤ st) (h1 : st < s.cols.length) (h7 : l.length ≤ 7) (ns : List Int) (hn : ns.Nodup) (hl : ns.length ≤ 7) (hob : outB 0 ((l.length : Int) - 1) ns = false) {p : List Int × Int} (h : fm (ordO s l st) (permsL ns) = some p) : 0 ≤ p.2 ∧ p.2 ≤ 210000 := by
  obtain ⟨h2, h3⟩ := fm_mem _ _ _ h
  have hp := (permsF_mem ns.length ns p.1 rfl hn).1 h2
  have hob' : outB 0 ((l.length : Int) - 1) p.1 = false := by
    rw [outB_all]
    intro i hi
    rw [getD_at _ _ _ hi]
    have : p.1[i] ∈ ns := hp.mem_iff.1 (List.getElem_mem hi)
    obtain ⟨j, hj, e⟩ := List.getElem_of_mem this
    have := (outB_all _ _ _).1 hob j hj
    rw [getD_at _ _ _ hj] at this
    rw [← e]; exact this
  have hlen := hp.length_eq
  have := lossO_bd s (good_of_chk hc) st ⟨h0, h1⟩ (putL l p.1) (fun x hx => by obtain ⟨i, hi, rfl⟩ := List.getElem_of_mem hx; exact okBat_all (putL_okR hob' hb) i hi) h3
  rw [putL_lenR] at this
  omega
def s29 : List D → Option D := sp3 (cAgg rShp) cInt (cList rBat) (cTup3 (cList rInt) cInt cInt) fun s st l => some (refBest s st l)
theorem ok29 : ∀ ds d, s29 ds = some d → PureC Try.prog 29 ds d := ok_sp3 fun s st l r hr => by
  cases hr
  refine pure_of_dec (cTup3 (cList rInt) cInt cInt) _ (mkCx_ok del12 38 kp29 []) Try.func29 rfl rfl (Nat.le_of_ble_eq_true rfl) (by kernel_rfl) ?_
  rw [Try.results29]
  unfold refBest
  rw [openErr_eq]
  by_cases h1 : colE s [st] = 0
  · obtain ⟨hc, hs0, hs1⟩ := colE_one h1
    have hlen : s.cols.length < 1000000 := by have := (good_of_chk hc).n1; omega
    by_cases h2 : batsE s l = 0
    · obtain ⟨_, hl7, hb⟩ := openErr_zeroR (s := s) (l := l) (st := [st]) (by rw [openErr_eq, if_pos h1]; exact h2)
      have h3 : (l.length : Int) ≤ 61 := by omega
      have h4 := least_part hc hb hs0 hs1 hl7 0 false
      have h5 : ∀ p, fm (ordO s l st) (permsL (partL 0 l.length false)) = some p → 0 ≤ p.2 ∧ p.2 ≤ 210000 := fun p h => ordO_bd hc hb hs0 hs1 hl7 _ h4.2.2.2.1 h4.2.2.1 h4.2.2.2.2 h
      cases hF : fm (ordO s l st) (permsL (partL 0 l.length false)) with
      | none => simp [kp29, rShp_enc, rShp_dec, rBat_k, rBat_decL, rInt_dec1, l12, l11, l10, l9, l8, l7, l6, l5, s57, s73, s74, s75, h1, h2, h3, h4, hlen, hF, leastP]
      | some p =>
        have h6 : ¬ p.2 < 0 := by have := h5 p hF; omega
        simp [kp29, rShp_enc, rShp_dec, rBat_k, rBat_decL, rInt_dec1, l12, l11, l10, l9, l8, l7, l6, l5, s57, s73, s74, s75, h1, h2, h3, h4, h6, hlen, hF, leastP]
    · have h2' : (batsE s l != 0) = true := by simpa using h2
      simp [kp29, rShp_enc, rShp_dec, rBat_k, rBat_decL, rInt_dec1, l12, l11, l10, l9, l8, l7, l6, l5, s57, s73, h1, h2, h2', hlen]
  · have h1' : (colE s [st] != 0) = true := by simpa using h1
    have h1'' : (colE s [st] == 0) = false := by simpa using h1
    simp [kp29, rShp_enc, rShp_dec, rBat_k, rBat_decL, rInt_dec1, l12, l11, l10, l9, l8, l7, l6, l5, s57, s73, h1, h1', h1'']
end Go.Proofs.Ytpkjmnfgpbliaaa
namespace Go.Proofs.Ytpkjmnfgpbliaaa
open Go.RowKit
set_option linter.unusedSimpArgs false
set_option linter.unusedVariables false

def kp32 (r : Nat) : List (Nat × Option Nat) := match r with
  | 0 => [(2, none), (3, none), (4, none), (6, none)]
  | 1 => [(2, none), (3, none), (4, none), (6, none), (9, none)]
  | 2 => [(2, none), (3, none), (4, none), (6, none), (9, none), (25, none)]
  | 3 => [(2, none), (3, none), (4, none), (6, none), (9, none)]
  | 4 => [(2, none), (3, none), (4, none), (6, none), (9, none), (30, none)]
  | 5 => [(6, none), (7, none), (8, none)]
  | 6 => [(2, none), (3, none), (4, none), (6, none), (10, none)]
  | 7 => [(2, none), (3, none), (4, none), (6, none), (10, none), (11, none)]
  | 8 => [(2, none), (3, none), (4, none), (6, none), (10, none), (11, none), (12, none)]
  | 9 => [(2, none), (3, none), (4, none), (6, none), (10, none), (11, none), (12, none), (37, none)]
  | 10 => [(2, none), (3, none), (4, none), (6, none), (10, none), (11, none), (12, none)]
  | 11 => [(2, none), (3, none), (4, none), (6, none), (10, none), (11, none), (12, none), (13, none), (14, none)]
  | 12 => [(2, none), (3, none), (4, none), (6, none), (10, none), (11, none), (12, none), (13, none), (14, none), (15, none), (16, none)]
  | 13 => [(2, none), (3, none), (4, none), (6, none), (10, none), (11, none), (12, none), (13, none), (14, none), (15, none), (16, none), (80, none)]
  | 14 => [(2, none), (3, none), (4, none), (6, none), (10, none), (11, none), (12, none)]
  | 15 => [(6, none), (10, none), (11, none), (88, none)]
  | 16 => [(6, none), (7, none), (8, none)]
  | 17 => [(6, none), (7, none), (8, none)]
  | _ => []
def rTwo : Row (Int × Int) := ⟨2, fun x => [DI x.1, DI x.2], fun d => match d with | [.v (.int .i64 a), .v (.int .i64 b)] => some (a, b) | _ => none, fun _ => rfl, fun d x h => by
  split at h
  · cases h; exact LImp.refl _
  · cases h⟩
theorem rTwo_enc (x : Int × Int) : rTwo.enc x = [DI x.1, DI x.2] := rfl
def rPair : Row (List Int × List Int) := ⟨2, fun x => [.sl 1 (x.1.map rInt.enc), .sl 1 (x.2.map rInt.enc)], fun d => match d with | [a, b] => (match (cList rInt).dec a, (cList rInt).dec b with | some x, some y => some (x, y) | _, _ => none) | _ => none, fun x => by simp only [rInt_decL], fun d x h => by
  split at h
  · split at h
    · rename_i p q h1 h2; cases h
      exact ⟨_, _, rfl, (cList rInt).ed _ _ h1, _, _, rfl, (cList rInt).ed _ _ h2, rfl⟩
    · cases h
  · cases h⟩
theorem rPair_dec (a b : D) : rPair.dec [a, b] = (match (cList rInt).dec a, (cList rInt).dec b with | some x, some y => some (x, y) | _, _ => none) := rfl
theorem rPair_enc (x : List Int × List Int) : rPair.enc x = [.sl 1 (x.1.map rInt.enc), .sl 1 (x.2.map rInt.enc)] := rfl
/-- What a set of batches on the first machine comes to. -/
def twoX (s : Shp) (a b : Int) (l : List Bat) (set : Nat) : Option ((List Int × List Int) × Int) :=
  match fm (ordO s l a) (permsL (partL set l.length true)), fm (ordO s l b) (permsL (partL set l.length false)) with
  | some p, some q => some ((p.1, q.1), p.2 + q.2)
  | _, _ => none
def twoK (s : Shp) (a b : Int) (l : List Bat) (k : Nat) : Option ((List Int × List Int) × Int) := (List.range k).foldl (fun Z set => better Z (twoX s a b l set)) none
theorem twoK_succ (s : Shp) (a b : Int) (l : List Bat) (k : Nat) : twoK s a b l (k + 1) = better (twoK s a b l k) (twoX s a b l k) := by
  unfold twoK; rw [List.range_succ, List.foldl_append]; rfl
/-- What Two of the reference returns. -/
def refTwo (s : Shp) (st : Int × Int) (l : List Bat) : (List Int × List Int) × Int × Int :=
  if ¬ openErr s l [st.1, st.2] = 0 then (([], []), 0, openErr s l [st.1, st.2]) else
    match twoK s st.1 st.2 l (2 ^ l.length) with
    | none => (([], []), 0, 9)
    | some p => (p.1, p.2, 0)
def pairD : Option ((List Int × List Int) × Int) → D × D
  | none => (.sl 0 [], .sl 0 [])
  | some p => (.sl 1 (p.1.1.map rInt.enc), .sl 1 (p.1.2.map rInt.enc))
theorem pairD_none : pairD none = (.sl 0 [], .sl 0 []) := rfl
theorem pairD_some (p : (List Int × List Int) × Int) : pairD (some p) = (.sl 1 (p.1.1.map rInt.enc), .sl 1 (p.1.2.map rInt.enc)) := rfl
theorem colE_two {s : Shp} {x y : Int} (h : colE s [x, y] = 0) : (chk s).2.2 = 0 ∧ (0 ≤ x ∧ x < s.cols.length) ∧ 0 ≤ y ∧ y < s.cols.length := by
  unfold colE at h
  by_cases h1 : (chk s).2.2 = 0
  · rw [if_neg (by simpa using h1)] at h
    by_cases h2 : outB 0 ((s.cols.length : Int) - 1) [x, y] = true
    · rw [if_pos h2] at h; omega
    · have := (outB_two _ _ _ _).1 (by simpa using h2)
      omega
  · rw [if_pos h1] at h; exact absurd h h1
def s32 : List D → Option D := sp3 (cAgg rShp) (cAgg rTwo) (cList rBat) (cTup3 (cAgg rPair) cInt cInt) fun s st l => some (refTwo s st l)
theorem ok32 : ∀ ds d, s32 ds = some d → PureC Try.prog 32 ds d := ok_sp3 fun s st l r hr => by
  cases hr
  obtain ⟨a, b⟩ := st
  refine pure_of_dec (cTup3 (cAgg rPair) cInt cInt) _ (mkCx_ok del12 92 kp32 []) Try.func32 rfl rfl (Nat.le_of_ble_eq_true rfl) (by kernel_rfl) ?_
  rw [Try.results32]
  unfold refTwo
  rw [openErr_eq]
  by_cases h1 : colE s [a, b] = 0
  · obtain ⟨hc, ⟨ha0, ha1⟩, hb0, hb1⟩ := colE_two h1
    have hlen : s.cols.length < 1000000 := by have := (good_of_chk hc).n1; omega
    by_cases h2 : batsE s l = 0
    · obtain ⟨_, hl7, hb⟩ := openErr_zeroR (s := s) (l := l) (st := [a, b]) (by rw [openErr_eq, if_pos h1]; exact h2)
      have h3 : (l.length : Int) ≤ 61 := by omega
      have hbdA : ∀ set p, fm (ordO s l a) (permsL (partL set l.length true)) = some p → 0 ≤ p.2 ∧ p.2 ≤ 210000 := fun set p h => by
        have h4 := least_part hc hb ha0 ha1 hl7 set true
        exact ordO_bd hc hb ha0 ha1 hl7 _ h4.2.2.2.1 h4.2.2.1 h4.2.2.2.2 h
      have hbdB : ∀ set p, fm (ordO s l b) (permsL (partL set l.length false)) = some p → 0 ≤ p.2 ∧ p.2 ≤ 210000 := fun set p h => by
        have h4 := least_part hc hb hb0 hb1 hl7 set false
        exact ordO_bd hc hb hb0 hb1 hl7 _ h4.2.2.2.1 h4.2.2.1 h4.2.2.2.2 h
      have hbX : ∀ k p, twoX s a b l k = some p → 0 ≤ p.2 ∧ p.2 ≤ 420000 := by
        intro k p h
        unfold twoX at h
        split at h
        · rename_i x y hx hy
          cases h
          have := hbdA k x hx
          have := hbdB k y hy
          exact ⟨by simp only; omega, by simp only; omega⟩
        · cases h
      have hbK : ∀ k p, twoK s a b l k = some p → 0 ≤ p.2 ∧ p.2 ≤ 420000 := by
        intro k
        induction k with
        | zero => intro p h; cases h
        | succ k ih =>
          intro p h
          rw [twoK_succ] at h
          cases hx : twoK s a b l k with
          | none => rw [hx, none_better] at h; exact hbX k p h
          | some x =>
            cases hy : twoX s a b l k with
            | none => rw [hx, hy, better_none] at h; cases h; exact ih _ hx
            | some y =>
              rw [hx, hy] at h
              unfold better at h
              simp only at h
              split at h
              · cases h; exact hbX k _ hy
              · cases h; exact ih _ hx
      have hpw : (2 : Nat) ^ l.length ≤ 2 ^ 7 := Nat.pow_le_pow_right (by omega) hl7
      simp [kp32, rShp_enc, rShp_dec, rTwo_enc, rBat_k, rBat_decL, rInt_dec2, l12, l11, l10, l9, l8, l7, l6, l5, s57, s73, h1, h2, hlen]
      have hpow : (2 : Int) ^ l.length = ((2 ^ l.length : Nat) : Int) := by push_cast; rfl
      (generalize hLoopQ : Cx.loop _ _ _ = rLoopQ; apply loop_then hLoopQ (fun k => ⟨[(2, .d (.sl 2 (l.map rBat.enc))), (3, .loc 3 0), (4, .loc 4 0), (6, .loc 6 0), (10, .loc 10 0), (11, .d (DI (((twoK s a b l k).map (·.2)).getD (-1)))), (12, .d (DI k))], [(3, [.d (.sl 4 (s.cols.map rCol.enc)), .d (DI s.keep.lo), .d (DI s.keep.hi), .d (DI s.rinse)]), (4, [.d (DI a), .d (DI b)]), (6, [.d (.sl 0 []), .d (.sl 0 [])]), (10, [.d (pairD (twoK s a b l k)).1, .d (pairD (twoK s a b l k)).2])], []⟩) (2 ^ l.length) rfl; rotate_left; (show _ < 281474976710656; omega); rfl; rotate_left; all_goals clear hLoopQ)
      · intro j hj
        have e1 := wrap_small ((j : Int) + 1) (by omega) (by omega)
        have e2 : (j : Int) < 2 ^ l.length := by rw [hpow]; omega
        have e3 : (j : Int) ≤ 9223372036854775807 := by omega
        have e4 := least_part hc hb ha0 ha1 hl7 j true
        have e5 := least_part hc hb hb0 hb1 hl7 j false
        rw [twoK_succ]
        have hK := hbK j
        generalize twoK s a b l j = Z at *
        cases hA : fm (ordO s l a) (permsL (partL j l.length true)) with
        | none =>
          have hX : twoX s a b l j = none := by unfold twoX; rw [hA]
          rw [hX, better_none]
          generalize pairD Z = D2
          generalize ((Z.map (·.2)).getD (-1)) = L
          simp [kp32, rShp_dec, rBat_k, rBat_decL, rTwo_enc, l12, l11, s75, s74, s76, h3, e1, e2, e3, e4, e5, hA, leastP]
        | some p =>
          have hpA := hbdA j p hA
          have c1 : 0 ≤ p.2 := hpA.1
          cases hB : fm (ordO s l b) (permsL (partL j l.length false)) with
          | none =>
            have hX : twoX s a b l j = none := by unfold twoX; rw [hA, hB]
            rw [hX, better_none]
            generalize pairD Z = D2
            generalize ((Z.map (·.2)).getD (-1)) = L
            simp [kp32, rShp_dec, rBat_k, rBat_decL, rTwo_enc, l12, l11, s75, s74, s76, h3, e1, e2, e3, e4, e5, hA, hB, c1, leastP]
          | some q =>
            have hqB := hbdB j q hB
            have c2 : 0 ≤ q.2 := hqB.1
            have c3 := wrap_small (p.2 + q.2) (by omega) (by omega)
            have c4 : 0 ≤ p.2 + q.2 := by omega
            have hX : twoX s a b l j = some ((p.1, q.1), p.2 + q.2) := by unfold twoX; rw [hA, hB]
            have e6 := better_code Z (p.1, q.1) (some (p.2 + q.2)) (fun x h => (hK x h).1) (fun m h => by cases h; exact c4)
            simp only [Option.map_some, Option.getD_some] at e6
            rw [hX, e6]
            generalize hL : ((Z.map (·.2)).getD (-1)) = L
            by_cases c5 : L < 0
            · simp [kp32, rShp_dec, rBat_k, rBat_decL, rTwo_enc, l12, l11, s75, s74, s76, h3, e1, e2, e3, e4, e5, hA, hB, c1, c2, c3, c4, c5, leastP, pairD_some, hL]
            · by_cases c6 : p.2 + q.2 < L
              · simp [kp32, rShp_dec, rBat_k, rBat_decL, rTwo_enc, l12, l11, s75, s74, s76, h3, e1, e2, e3, e4, e5, hA, hB, c1, c2, c3, c4, c5, c6, leastP, pairD_some, hL]
              · simp [kp32, rShp_dec, rBat_k, rBat_decL, rTwo_enc, l12, l11, s75, s74, s76, h3, e1, e2, e3, e4, e5, hA, hB, c1, c2, c3, c4, c5, c6, leastP, hL]
      · have e2 : ¬ (((2 ^ l.length : Nat) : Int) < 2 ^ l.length) := by rw [hpow]; omega
        cases hZ : twoK s a b l (2 ^ l.length) with
        | none => simp [kp32, rBat_k, l12, s76, h3, e2, pairD_none, rPair_dec]
        | some p =>
          have h6 : ¬ p.2 < 0 := by have := hbK _ p hZ; omega
          simp [kp32, rBat_k, l12, s76, h3, e2, h6, pairD_some, rPair_dec]
    · have h2' : (batsE s l != 0) = true := by simpa using h2
      simp [kp32, rShp_enc, rShp_dec, rTwo_enc, rPair_dec, rBat_k, rBat_decL, rInt_dec2, l12, l11, l10, l9, l8, l7, l6, l5, s57, s73, h1, h2, h2', hlen]
  · have h1' : (colE s [a, b] != 0) = true := by simpa using h1
    have h1'' : (colE s [a, b] == 0) = false := by simpa using h1
    simp [kp32, rShp_enc, rShp_dec, rTwo_enc, rPair_dec, rBat_k, rBat_decL, rInt_dec2, l12, l11, l10, l9, l8, l7, l6, l5, s57, s73, h1, h1', h1'']
end Go.Proofs.Ytpkjmnfgpbliaaa
