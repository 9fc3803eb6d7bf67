/-
  Reference functions of the dip chapter: what is written. Conditions: none.
-/
import Derived.Test.YtcgacojnfkklaaaGreatDoorZRefB
import Derived.Lib.ItoaNum
namespace Go.Proofs.YtcgacojnfkklaaaGreatDoor
open Go.RowKit
set_option linter.unusedSimpArgs false
set_option linter.unusedVariables false
def digV (n : Nat) : ByteArray := ⟨(Lib.decDigits n).toArray⟩
theorem digV_small {n : Nat} (h : n < 10) : digV n = strOfNums [48 + (n : Int)] := by
  unfold digV
  rw [Lib.decDigits, dif_pos h]
  rfl
theorem digV_step {n : Nat} (h : 10 ≤ n) : digV n = digV (n / 10) ++ strOfNums [48 + ((n % 10 : Nat) : Int)] := by
  unfold digV
  rw [Lib.decDigits, dif_neg (by omega)]
  apply ByteArray.ext
  apply Array.toList_inj.1
  rw [ByteArray.data_append, Array.toList_append]
  rfl
theorem nDigits_le : ∀ (k u : Nat), 1 ≤ k → u < 10 ^ k → Lib.nDigits u ≤ k
  | 0, u, h, _ => by omega
  | k + 1, u, _, h => by
    rw [Lib.nDigits]
    split
    · omega
    · rename_i h10
      have hk : 1 ≤ k := by
        cases k with
        | zero => simp at h; omega
        | succ k => omega
      have := nDigits_le k (u / 10) hk (by rw [Nat.pow_succ] at h; omega)
      omega
theorem digV_size {n k : Nat} (hk : 1 ≤ k) (h : n < 10 ^ k) : (digV n).size ≤ k := by
  have := nDigits_le k n hk h
  unfold digV
  simp only [ByteArray.size, List.size_toArray, Lib.decDigits_length]
  exact this
def natLt (n : Int) (k : Nat) : Prop := 0 ≤ n ∧ n.toNat < 10 ^ k
instance (n : Int) (k : Nat) : Decidable (natLt n k) := inferInstanceAs (Decidable (_ ∧ _))
def kp105 (r : Nat) : List (Nat × Option Nat) := match r with
  | 0 => [(0, none)]
  | 1 => [(0, none), (3, none)]
  | 2 => [(0, none), (3, none), (11, none)]
  | 3 => [(3, none)]
  | 4 => [(2, none)]
  | _ => []
def s105 (k : Nat) : List D → Option D := sp1 cInt cStr fun n => if natLt n k then some (digV n.toNat) else none
theorem call105 (xs : Array Value) (w : World) : (callFunc 105 xs).run Tryz.prog w = .ok (.enter 105 xs) w := by kernel_rfl
theorem ok105_s (k : Nat) (hk : k ≤ 5) (ih : ∀ ds d, s105 k ds = some d → PureC Tryz.prog 105 ds d) : ∀ ds d, s105 (k + 1) ds = some d → PureC Tryz.prog 105 ds d := ok_sp1 fun n r hr => by
  split at hr
  · rename_i hc
    cases hr
    obtain ⟨h0, h1⟩ := hc
    obtain ⟨N, rfl⟩ : ∃ N : Nat, n = N := ⟨n.toNat, by omega⟩
    rw [Int.toNat_natCast] at h1 ⊢
    have hpow : 10 ^ (k + 1) ≤ 10 ^ 6 := Nat.pow_le_pow_right (by omega) (by omega)
    have hlt : N < 1000000 := by omega
    have hm : ((N : Int).tmod 10) = ((N % 10 : Nat) : Int) := by rw [Int.tmod_eq_emod_of_nonneg (by omega)]; omega
    have hq : ((N : Int).tdiv 10) = ((N / 10 : Nat) : Int) := by rw [Int.tdiv_eq_ediv_of_nonneg (by omega)]; omega
    have w1 := wrap_small (48 + ((N % 10 : Nat) : Int)) (by omega) (by omega)
    have w2 : IntKind.u8.wrap (48 + ((N % 10 : Nat) : Int)) = 48 + ((N % 10 : Nat) : Int) := by
      simp [IntKind.wrap, IntKind.bits]
      omega
    have w3 := wrap_small ((N / 10 : Nat) : Int) (by omega) (by omega)
    refine pure_of_call (mkCx_ok (del_cons del_nil call105 ih) 18 kp105 []) Tryz.func105 rfl rfl (Nat.le_of_ble_eq_true rfl) (by kernel_rfl) ?_
    rw [Tryz.results105]
    by_cases h10 : 10 ≤ N
    · have hI : (10 : Int) ≤ N := by omega
      have hdiv : natLt ((N / 10 : Nat) : Int) k := ⟨by omega, by rw [Int.toNat_natCast]; rw [Nat.pow_succ] at h1; omega⟩
      rw [digV_step h10]
      have hdn : ((N / 10 : Nat) : Int).toNat = N / 10 := Int.toNat_natCast _
      have hsz : (digV (N / 10)).size ≤ 9223372036854775806 := by
        have := digV_size (n := N / 10) (k := 6) (by omega) (by omega)
        omega
      generalize hQ : ((N / 10 : Nat) : Int) = Q at *
      generalize hR : ((N % 10 : Nat) : Int) = R at *
      simp [hm, hq, w1, w2, w3, hI, hdiv, kp105, s105, hdn, strOfNums_size, hsz]
    · have hI : ¬ (10 : Int) ≤ N := by omega
      have hs : N % 10 = N := by omega
      rw [digV_small (by omega)]
      rw [hs] at hm w1 w2
      simp [kp105, hm, w1, w2, hI]
  · cases hr
theorem ok105_0 : ∀ ds d, s105 0 ds = some d → PureC Tryz.prog 105 ds d := ok_sp1 fun n r hr => by
  split at hr
  · rename_i hc
    cases hr
    obtain ⟨h0, h1⟩ := hc
    have : n = 0 := by simp at h1; omega
    subst this
    refine pure_of_call (mkCx_ok del_nil 18 kp105 []) Tryz.func105 rfl rfl (Nat.le_of_ble_eq_true rfl) (by kernel_rfl) ?_
    rw [Tryz.results105]
    have w1 := wrap_small 48 (by omega) (by omega)
    have w2 : IntKind.u8.wrap 48 = 48 := by decide
    have hd : digV 0 = strOfNums [48] := digV_small (by omega)
    simp [kp105, w1, w2, hd]
  · cases hr
theorem ok105 : ∀ k, k ≤ 6 → ∀ ds d, s105 k ds = some d → PureC Tryz.prog 105 ds d
  | 0, _ => ok105_0
  | k + 1, h => ok105_s k (by omega) (ok105 k (by omega))
def spB : ByteArray := ⟨#[32]⟩
def nlB : ByteArray := ⟨#[10]⟩
def trB : ByteArray := ⟨#[32, 116, 117, 114, 110, 101, 100]⟩
def lineT (x : Dsh) (o : ByteArray) (d : Dip) : ByteArray :=
  (if d.turned then o ++ (x.baths.getD d.bath.toNat default).name ++ spB ++ digV d.secs.toNat ++ spB ++ digV d.pause.toNat ++ trB else o ++ (x.baths.getD d.bath.toNat default).name ++ spB ++ digV d.secs.toNat ++ spB ++ digV d.pause.toNat) ++ nlB
def textL (x : Dsh) (l : List Dip) : Nat → ByteArray
  | 0 => ByteArray.empty
  | k + 1 => lineT x (textL x l k) (l.getD k default)
def textV (x : Dsh) (l : List Dip) : ByteArray := textL x l l.length
def kp78 (r : Nat) : List (Nat × Option Nat) := match r with
  | 0 => [(1, none), (2, none)]
  | 1 => [(1, none), (2, none), (5, none)]
  | 2 => [(1, none), (2, none), (5, none), (6, none)]
  | 3 => [(1, none), (2, none), (5, none), (6, none), (11, none)]
  | 4 => [(1, none), (2, none), (5, none), (6, none)]
  | 5 => [(1, none), (2, none), (5, none), (6, none), (7, none)]
  | 6 => [(1, none), (2, none), (5, none), (6, none), (7, none)]
  | 7 => [(1, none), (2, none), (5, none), (6, none), (38, none)]
  | 8 => [(1, none), (2, none), (5, none), (6, none)]
  | 9 => [(1, none), (2, none), (5, none), (6, none)]
  | 10 => [(4, none)]
  | _ => []
def kp32 (r : Nat) : List (Nat × Option Nat) := match r with
  | 0 => [(1, none), (2, none)]
  | 1 => [(1, none), (2, none), (6, none)]
  | 2 => [(1, none), (2, none), (6, none), (12, none)]
  | 3 => [(4, none), (5, none)]
  | 4 => [(4, none), (5, none)]
  | _ => []
theorem okD_all {x : Dsh} {d : Dip} (h : okD x d) : ∃ B : Nat, d.bath = B ∧ ∃ hB : B < x.baths.length, x.baths.length ≤ 6 ∧ x.baths[B].name.size ≤ 20 ∧ (∃ S : Nat, d.secs = S ∧ S ≤ 600) ∧ ∃ Q : Nat, d.pause = Q ∧ Q ≤ 600 := by
  obtain ⟨B, e1, hB, e2, h6, g1, _, _, _⟩ := okD_bath h
  obtain ⟨hw, ⟨s0, s1⟩, p0, p1⟩ := g1
  have hb := (baths_of h.1).2.2.2 B hB
  have hn := (bathE_zero hb).1
  unfold refName at hn
  simp only [Bool.and_eq_true, inR_iff] at hn
  exact ⟨B, e1, hB, h6, by omega, ⟨d.secs.toNat, by omega, by omega⟩, ⟨d.pause.toNat, by omega, by omega⟩⟩
theorem lineT_size {x : Dsh} {d : Dip} (h : okD x d) (o : ByteArray) : (lineT x o d).size ≤ o.size + 36 := by
  obtain ⟨B, e1, hB, h6, hn, ⟨S, e2, hS⟩, Q, e3, hQ⟩ := okD_all h
  have h1 := digV_size (n := S) (k := 3) (by omega) (by omega)
  have h2 := digV_size (n := Q) (k := 3) (by omega) (by omega)
  have c1 : spB.size = 1 := rfl
  have c2 : nlB.size = 1 := rfl
  have c3 : trB.size = 7 := rfl
  unfold lineT
  rw [e1, e2, e3, Int.toNat_natCast, Int.toNat_natCast, Int.toNat_natCast, getD_at _ _ _ hB]
  split <;> simp only [ByteArray.size_append] <;> omega
theorem textL_size {x : Dsh} {l : List Dip} (h : okL x l) : ∀ k, k ≤ l.length → (textL x l k).size ≤ 36 * k
  | 0, _ => by simp [textL]
  | k + 1, hk => by
    have h1 := textL_size h k (by omega)
    have h2 := lineT_size (okL_at h k (by omega)) (textL x l k)
    rw [textL, getD_at _ _ _ (by omega)]
    omega
def lT : List (Nat × (List D → Option D)) := (105, s105 3) :: l5
theorem delT : DelOk Tryz.prog (delOf lT) := del_cons del5 call105 (ok105 3 (by omega))
def s78 : List D → Option D := sp2 (cAgg rDsh) (cList rDip) cStr fun x l => if okL x l then some (textV x l) else none
set_option maxHeartbeats 2000000 in
theorem ok78 : ∀ ds d, s78 ds = some d → PureC Tryz.prog 78 ds d := ok_sp2 fun x l r hr => by
  split at hr
  · rename_i hl
    cases hr
    have h30 := hl.2.1
    refine pure_of_call (mkCx_ok delT 44 kp78 []) Tryz.func78 rfl rfl (Nat.le_of_ble_eq_true rfl) (by kernel_rfl) ?_
    rw [Tryz.results78]
    simp [kp78, rDsh_enc, rDip_k]
    (generalize hLoopQ : Cx.loop _ _ _ = rLoopQ; apply loop_then hLoopQ (fun k => ⟨[(1, .d (.sl 4 (l.map rDip.enc))), (2, .loc 2 0), (5, .d (DS (textL x l k))), (6, .d (DI k))], [(2, [.d (DI x.melt), .d (DI x.coat), .d (DI x.thin), .d (DI x.hold), .d (DI x.back), .d (DI x.draw), .d (DI x.set), .d (DI x.run), .d (.sl 3 (x.baths.map rBth.enc))])], [], []⟩) l.length rfl; rotate_left; (show _ < 281474976710656; omega); rfl; rotate_left; all_goals clear hLoopQ)
    · intro k hk
      have hkl : (k : Int) < l.length := by omega
      have w1 := wrap_small ((k : Int) + 1) (by omega) (by omega)
      have hd := okL_at hl k hk
      obtain ⟨B, e1, hB, h6, hn, ⟨S, e2, hS⟩, Q, e3, hQ⟩ := okD_all hd
      have hBl : (B : Int) < x.baths.length := by omega
      have hT := textL_size hl k (by omega)
      have h1 := digV_size (n := S) (k := 3) (by omega) (by omega)
      have h2 := digV_size (n := Q) (k := 3) (by omega) (by omega)
      have n1 : natLt S 3 := ⟨by omega, by rw [Int.toNat_natCast]; omega⟩
      have n2 : natLt Q 3 := ⟨by omega, by rw [Int.toNat_natCast]; omega⟩
      have hnext : textL x l (k + 1) = lineT x (textL x l k) l[k] := by rw [textL, getD_at _ _ _ hk]
      rw [hnext]
      unfold lineT
      rw [e1, e2, e3, Int.toNat_natCast, Int.toNat_natCast, Int.toNat_natCast, getD_at _ _ _ hB]
      have k1 : (textL x l k).size + x.baths[B].name.size ≤ 9223372036854775807 := by omega
      have k2 : (textL x l k).size + x.baths[B].name.size ≤ 9223372036854775806 := by omega
      have k3 : (textL x l k).size + x.baths[B].name.size + 1 + (digV S).size ≤ 9223372036854775807 := by omega
      have k4 : (textL x l k).size + x.baths[B].name.size + 1 + (digV S).size ≤ 9223372036854775806 := by omega
      have k5 : (textL x l k).size + x.baths[B].name.size + 1 + (digV S).size + 1 + (digV Q).size ≤ 9223372036854775807 := by omega
      have k6 : (textL x l k).size + x.baths[B].name.size + 1 + (digV S).size + 1 + (digV Q).size ≤ 9223372036854775806 := by omega
      have k7 : (textL x l k).size + x.baths[B].name.size + 1 + (digV S).size + 1 + (digV Q).size ≤ 9223372036854775800 := by omega
      have k8 : (textL x l k).size + x.baths[B].name.size + 1 + (digV S).size + 1 + (digV Q).size ≤ 9223372036854775799 := by omega
      have z1 : (⟨#[32]⟩ : ByteArray).size = 1 := rfl
      have z2 : (⟨#[10]⟩ : ByteArray).size = 1 := rfl
      have z3 : (⟨#[32, 116, 117, 114, 110, 101, 100]⟩ : ByteArray).size = 7 := rfl
      cases ht : l[k].turned
      · simp [kp78, rDip_enc, rBth_enc, hk, hkl, e1, e2, e3, hB, hBl, lT, s105, n1, n2, w1, ht, k1, k2, k3, k4, k5, k6, k7, k8, z1, z2, z3, ByteArray.size_append, spB, nlB, trB]
      · simp [kp78, rDip_enc, rBth_enc, hk, hkl, e1, e2, e3, hB, hBl, lT, s105, n1, n2, w1, ht, k1, k2, k3, k4, k5, k6, k7, k8, z1, z2, z3, ByteArray.size_append, spB, nlB, trB]
    · simp [kp78, textV]
  · cases hr
theorem call78 (xs : Array Value) (w : World) : (callFunc 78 xs).run Tryz.prog w = .ok (.enter 78 xs) w := by kernel_rfl
def writeR (x : Dsh) (l : List Dip) : ByteArray × Int := if askedE x ⟨0, 0, 0⟩ l = 0 then (textV x l, 0) else (⟨#[]⟩, askedE x ⟨0, 0, 0⟩ l)
def lW : List (Nat × (List D → Option D)) := (78, s78) :: lT
theorem delW : DelOk Tryz.prog (delOf lW) := del_cons delT call78 ok78
def s32 : List D → Option D := sp2 (cAgg rDsh) (cList rDip) (cTup2 cStr cInt) fun x l => some (writeR x l)
set_option maxHeartbeats 2000000 in
theorem ok32 : ∀ ds d, s32 ds = some d → PureC Tryz.prog 32 ds d := ok_sp2 fun x l r hr => by
  cases hr
  refine pure_of_call (mkCx_ok delW 17 kp32 []) Tryz.func32 rfl rfl (Nat.le_of_ble_eq_true rfl) (by kernel_rfl) ?_
  rw [Tryz.results32]
  have hz : rTap.dec [DI 0, DI 0, DI 0] = some ⟨0, 0, 0⟩ := rfl
  by_cases h : askedE x ⟨0, 0, 0⟩ l = 0
  · obtain ⟨_, _, hl⟩ := asked_ok h
    rw [show writeR x l = (textV x l, 0) from if_pos h]
    simp [kp32, rDsh_enc, rDsh_dec, rDip_k, rDip_decL, lW, lT, l5, s59, s78, hz, h, hl]
  · have h' : (askedE x ⟨0, 0, 0⟩ l != 0) = true := by simpa using h
    rw [show writeR x l = (⟨#[]⟩, askedE x ⟨0, 0, 0⟩ l) from if_neg h]
    simp [kp32, rDsh_enc, rDsh_dec, rDip_k, rDip_decL, lW, lT, l5, s59, s78, hz, h, h']
def kp87 (r : Nat) : List (Nat × Option Nat) := match r with
  | 0 => [(0, none), (1, none)]
  | 1 => [(0, none), (1, none), (5, some 1)]
  | 2 => [(0, none), (1, none), (5, some 1), (6, none)]
  | 3 => [(0, none), (1, none), (5, some 1), (6, none), (7, none)]
  | 4 => [(0, none), (1, none), (5, some 1), (6, none), (7, none), (11, none)]
  | 5 => [(0, none), (1, none), (5, some 1), (6, none), (7, none)]
  | 6 => [(0, none), (1, none), (5, some 1), (6, none), (7, none), (18, none)]
  | 7 => [(0, none), (1, none), (5, some 1), (7, none)]
  | 8 => [(0, none), (1, none), (5, some 1), (6, none), (7, none)]
  | 9 => [(4, some 1)]
  | _ => []
def kp88 (r : Nat) : List (Nat × Option Nat) := match r with
  | 0 => [(0, none)]
  | 1 => [(0, none), (8, none)]
  | 2 => [(2, none)]
  | 3 => [(0, none), (3, none)]
  | 4 => [(0, none), (3, none), (4, none)]
  | 5 => [(0, none), (3, none), (4, none), (12, none)]
  | 6 => [(0, none), (3, none), (4, none)]
  | 7 => [(0, none), (3, none), (4, none), (20, none)]
  | 8 => [(2, none)]
  | 9 => [(0, none), (3, none), (4, none)]
  | 10 => [(2, none)]
  | _ => []
def kp34 (r : Nat) : List (Nat × Option Nat) := match r with
  | 0 => [(1, none), (2, none)]
  | 1 => [(1, none), (2, none), (8, none)]
  | 2 => [(1, none), (2, none), (8, none), (27, none)]
  | 3 => [(1, none), (2, none), (8, none)]
  | 4 => [(1, none), (2, none), (8, none), (29, none)]
  | 5 => [(4, some 4), (5, none)]
  | 6 => [(1, none), (2, none), (9, none)]
  | 7 => [(1, none), (2, none), (9, none), (10, some 4)]
  | 8 => [(1, none), (2, none), (9, none), (10, some 4), (11, none)]
  | 9 => [(1, none), (2, none), (9, none), (10, some 4), (11, none), (37, none)]
  | 10 => [(1, none), (2, none), (9, none), (10, some 4), (11, none)]
  | 11 => [(1, none), (2, none), (9, none), (10, some 4), (11, none), (12, none)]
  | 12 => [(1, none), (2, none), (9, none), (10, some 4), (11, none), (12, none), (13, none)]
  | 13 => [(1, none), (2, none), (9, none), (10, some 4), (11, none), (12, none), (13, none), (14, none)]
  | 14 => [(1, none), (2, none), (9, none), (10, some 4), (11, none), (12, none), (13, none), (14, none), (58, none)]
  | 15 => [(1, none), (2, none), (9, none), (10, some 4), (11, none), (12, none), (13, none), (14, none)]
  | 16 => [(1, none), (2, none), (9, none), (10, some 4), (11, none), (12, none), (13, none), (14, none), (70, none)]
  | 17 => [(1, none), (2, none), (9, none), (10, some 4), (11, none), (12, none), (13, none), (14, none)]
  | 18 => [(1, none), (2, none), (9, none), (10, some 4), (11, none)]
  | 19 => [(10, some 4), (97, none)]
  | 20 => [(4, some 4), (5, none)]
  | 21 => [(4, some 4), (5, none)]
  | _ => []
def splitS (s : ByteArray) (b : Int) : Nat → List ByteArray × Nat
  | 0 => ([], 0)
  | i + 1 => if byteAt s i = b then ((splitS s b i).1 ++ [s.extract (splitS s b i).2 i], i + 1) else splitS s b i
def splitV (s : ByteArray) (b : Int) : List ByteArray := (splitS s b s.size).1 ++ [s.extract (splitS s b s.size).2 s.size]
theorem splitS_le (s : ByteArray) (b : Int) : ∀ i, (splitS s b i).2 ≤ i ∧ (splitS s b i).1.length ≤ i
  | 0 => ⟨Nat.le_refl _, Nat.le_refl _⟩
  | i + 1 => by
    have := splitS_le s b i
    unfold splitS
    split
    · simp; omega
    · omega
def s87 : List D → Option D := sp2 cStr (cK .u8) (cList rStr) fun s b => if s.size ≤ 2000 then some (splitV s b) else none
set_option maxHeartbeats 2000000 in
theorem ok87 : ∀ ds d, s87 ds = some d → PureC Tryz.prog 87 ds d := ok_sp2 fun s b r hr => by
  split at hr
  · rename_i hs
    cases hr
    refine pure_of_call (mkCx_ok del_nil 34 kp87 []) Tryz.func87 rfl rfl (Nat.le_of_ble_eq_true rfl) (by kernel_rfl) ?_
    rw [Tryz.results87]
    simp [kp87]
    (generalize hLoopQ : Cx.loop _ _ _ = rLoopQ; apply loop_then hLoopQ (fun i => ⟨[(0, .d (DS s)), (1, .d (.v (.int .u8 b))), (5, .sl 1 ((splitS s b i).1.map rStr.enc) (.tok 5)), (6, .d (DI (splitS s b i).2)), (7, .d (DI i))], [], [5], []⟩) s.size rfl; rotate_left; (show _ < 281474976710656; omega); rfl; rotate_left; all_goals clear hLoopQ)
    · intro i hi
      have hiI : (i : Int) < s.size := by omega
      have hle := splitS_le s b i
      have hb1 : ((splitS s b i).2 : Int) ≤ i := by omega
      have hb2 : (i : Int) ≤ s.size := by omega
      have w1 := wrap_small ((i : Int) + 1) (by omega) (by omega)
      have c1 : (splitS s b i).1.length ≤ 140737488355327 := by omega
      have c2 : ((splitS s b i).1.length + 1) * 16 ≤ 140737488355328 := by omega
      by_cases he : byteAt s i = b
      · have hS : splitS s b (i + 1) = ((splitS s b i).1 ++ [s.extract (splitS s b i).2 i], i + 1) := by rw [splitS, if_pos he]
        rw [hS]
        simp [kp87, rStr_enc, hi, hiI, he, hb1, hb2, w1, c1, c2]
      · have hS : splitS s b (i + 1) = splitS s b i := by rw [splitS, if_neg he]
        have he' : (byteAt s i == b) = false := by simpa using he
        rw [hS]
        simp [kp87, hi, hiI, he', w1]
    · have hle := splitS_le s b s.size
      have hb1 : ((splitS s b s.size).2 : Int) ≤ s.size := by omega
      have c1 : (splitS s b s.size).1.length ≤ 140737488355327 := by omega
      have c2 : ((splitS s b s.size).1.length + 1) * 16 ≤ 140737488355328 := by omega
      simp [kp87, rStr_enc, splitV, hb1, c1, c2]
  · cases hr
theorem call87 (xs : Array Value) (w : World) : (callFunc 87 xs).run Tryz.prog w = .ok (.enter 87 xs) w := by kernel_rfl
def digB (s : ByteArray) (i : Nat) : Bool := inR (byteAt s i) 48 57
def numS (s : ByteArray) : Nat → Int
  | 0 => 0
  | i + 1 => 10 * numS s i + (byteAt s i - 48)
def numV (s : ByteArray) : Int := if inR s.size 1 3 = false then -1 else if (List.range s.size).all (digB s) = true then numS s s.size else -1
theorem numS_bd (s : ByteArray) : ∀ i, (∀ j, j < i → digB s j = true) → 0 ≤ numS s i ∧ numS s i + 1 ≤ 10 ^ i
  | 0, _ => by simp [numS]
  | i + 1, h => by
    have h1 := numS_bd s i fun j hj => h j (by omega)
    have h2 := h i (by omega)
    unfold digB at h2
    rw [inR_iff] at h2
    have hp : (10 : Int) ^ (i + 1) = 10 ^ i * 10 := Int.pow_succ ..
    rw [numS, hp]
    omega
def s88 : List D → Option D := sp1 cStr cInt fun s => some (numV s)
set_option maxHeartbeats 2000000 in
theorem ok88 : ∀ ds d, s88 ds = some d → PureC Tryz.prog 88 ds d := ok_sp1 fun s r hr => by
  cases hr
  refine pure_of_call (mkCx_ok del1 30 kp88 []) Tryz.func88 rfl rfl (Nat.le_of_ble_eq_true rfl) (by kernel_rfl) ?_
  rw [Tryz.results88]
  by_cases h1 : inR s.size 1 3 = true
  · have h1b := inR_iff.1 h1
    have hconv : ∀ i, IntKind.i64.wrap (byteAt s i) = byteAt s i := fun i => by have := byteAt_bd s i; exact wrap_small _ (by omega) (by omega)
    simp [kp88, l1, s52, h1]
    rcases first_not (digB s) s.size with hall | ⟨K, hK, hbad, hgood⟩
    · have hV : numV s = numS s s.size := by
        unfold numV
        rw [if_neg (by simp [h1]), if_pos (List.all_eq_true.2 fun j hj => hall j (by simpa using hj))]
      rw [hV]
      (generalize hLoopQ : Cx.loop _ _ _ = rLoopQ; apply loop_then hLoopQ (fun i => ⟨[(0, .d (DS s)), (3, .d (DI (numS s i))), (4, .d (DI i))], [], [], []⟩) s.size rfl; rotate_left; (show _ < 281474976710656; omega); rfl; rotate_left; all_goals clear hLoopQ)
      · intro i hi
        have hiI : (i : Int) < s.size := by omega
        have hd : inR (byteAt s i) 48 57 = true := hall i hi
        have hdb := inR_iff.1 hd
        have hb := numS_bd s i fun j hj => hall j (by omega)
        have hp : (10 : Int) ^ i ≤ 1000 := by
          have : (10 : Nat) ^ i ≤ 10 ^ 3 := Nat.pow_le_pow_right (by omega) (by omega)
          have h2 : ((10 ^ i : Nat) : Int) = (10 : Int) ^ i := by simp
          omega
        have w1 := wrap_small ((i : Int) + 1) (by omega) (by omega)
        have w2 := wrap_small (10 * numS s i) (by omega) (by omega)
        have w3 : IntKind.u8.wrap (byteAt s i - 48) = byteAt s i - 48 := by
          simp [IntKind.wrap, IntKind.bits]
          omega
        have w4 := wrap_small (byteAt s i - 48) (by omega) (by omega)
        have w5 := wrap_small (10 * numS s i + (byteAt s i - 48)) (by omega) (by omega)
        simp [kp88, l1, s52, hi, hiI, hconv, hd, w1, w2, w3, w4, w5, numS]
      · simp [kp88]
    · have hV : numV s = -1 := by
        unfold numV
        rw [if_neg (by simp [h1]), if_neg]
        intro ha
        have := List.all_eq_true.1 ha K (by simpa using hK)
        rw [hbad] at this; cases this
      rw [hV]
      (generalize hLoopQ : Cx.loop _ _ _ = rLoopQ; apply loop_then hLoopQ (fun i => ⟨[(0, .d (DS s)), (3, .d (DI (numS s i))), (4, .d (DI i))], [], [], []⟩) K rfl; rotate_left; (show _ < 281474976710656; omega); rfl; rotate_left; all_goals clear hLoopQ)
      · intro i hi
        have hiI : (i : Int) < s.size := by omega
        have his : i < s.size := by omega
        have hd : inR (byteAt s i) 48 57 = true := hgood i hi
        have hdb := inR_iff.1 hd
        have hb := numS_bd s i fun j hj => hgood j (by omega)
        have hp : (10 : Int) ^ i ≤ 1000 := by
          have : (10 : Nat) ^ i ≤ 10 ^ 3 := Nat.pow_le_pow_right (by omega) (by omega)
          have h2 : ((10 ^ i : Nat) : Int) = (10 : Int) ^ i := by simp
          omega
        have w1 := wrap_small ((i : Int) + 1) (by omega) (by omega)
        have w2 := wrap_small (10 * numS s i) (by omega) (by omega)
        have w3 : IntKind.u8.wrap (byteAt s i - 48) = byteAt s i - 48 := by
          simp [IntKind.wrap, IntKind.bits]
          omega
        have w4 := wrap_small (byteAt s i - 48) (by omega) (by omega)
        have w5 := wrap_small (10 * numS s i + (byteAt s i - 48)) (by omega) (by omega)
        simp [kp88, l1, s52, hi, his, hiI, hconv, hd, w1, w2, w3, w4, w5, numS]
      · have hKI : (K : Int) < s.size := by omega
        have hd : inR (byteAt s K) 48 57 = false := hbad
        simp [kp88, l1, s52, hK, hKI, hconv, hd]
  · have h1' : inR s.size 1 3 = false := by simpa using h1
    rw [show numV s = -1 from if_pos h1']
    simp [kp88, l1, s52, h1']
theorem call88 (xs : Array Value) (w : World) : (callFunc 88 xs).run Tryz.prog w = .ok (.enter 88 xs) w := by kernel_rfl
end Go.Proofs.YtcgacojnfkklaaaGreatDoor
