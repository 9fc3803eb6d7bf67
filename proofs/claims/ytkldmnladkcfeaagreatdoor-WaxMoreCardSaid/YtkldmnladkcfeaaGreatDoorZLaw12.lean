/-
  The law WaxMore: more that is known makes no range wider. Conditions: the names are strings; what is drawn is of its type.
-/
import Derived.Test.YtkldmnladkcfeaaGreatDoorZLawT
import Derived.Test.YtkldmnladkcfeaaGreatDoorZAmF
namespace Go.Proofs.YtkldmnladkcfeaaGreatDoor
open Go.RowKit
set_option linter.unusedSimpArgs false
set_option linter.unusedVariables false
def kp12 (r : Nat) : List (Nat × Option Nat) := match r with
  | 0 => [(1, none), (3, none), (5, none)]
  | 1 => [(1, none), (3, none), (5, none), (33, none)]
  | 2 => [(6, none)]
  | 3 => [(1, none), (3, none), (5, none), (7, none)]
  | 4 => [(1, none), (3, none), (5, none), (7, none), (8, none), (9, none)]
  | 5 => [(1, none), (3, none), (5, none), (7, none), (8, none), (9, none), (10, none), (12, none)]
  | 6 => [(1, none), (3, none), (5, none), (7, none), (8, none), (10, none), (12, none), (65, none)]
  | 7 => [(6, none)]
  | 8 => [(3, none), (5, none), (7, none), (8, none), (10, none), (12, none), (13, none)]
  | 9 => [(3, none), (5, none), (7, none), (8, none), (10, none), (12, none), (13, none), (14, none)]
  | 10 => [(3, none), (5, none), (7, none), (8, none), (10, none), (12, none), (13, none), (14, none), (79, none)]
  | 11 => [(3, none), (5, none), (7, none), (8, none), (10, none), (12, none), (13, none), (14, none), (79, none)]
  | 12 => [(3, none), (5, none), (7, none), (8, none), (10, none), (12, none), (13, none), (15, none)]
  | 13 => [(3, none), (5, none), (7, none), (8, none), (10, none), (12, none), (13, none), (15, none), (16, none)]
  | 14 => [(3, none), (5, none), (7, none), (8, none), (10, none), (12, none), (13, none), (15, none), (16, none), (94, none)]
  | 15 => [(3, none), (5, none), (7, none), (8, none), (10, none), (12, none), (13, none), (15, none), (16, none)]
  | 16 => [(3, none), (5, none), (7, none), (8, none), (10, none), (12, none), (13, none), (15, none), (16, none)]
  | 17 => [(3, none), (5, none), (7, none), (8, none), (10, none), (12, none), (13, none), (15, none), (17, none)]
  | 18 => [(3, none), (5, none), (7, none), (8, none), (10, none), (12, none), (13, none), (15, none), (17, none), (132, none)]
  | 19 => [(3, none), (5, none), (7, none), (8, none), (10, none), (12, none), (13, none), (15, none), (17, none)]
  | 20 => [(3, none), (5, none), (7, none), (8, none), (10, none), (12, none), (13, none), (15, none), (17, none), (18, none)]
  | 21 => [(3, none), (5, none), (7, none), (8, none), (10, none), (12, none), (13, none), (15, none), (17, none), (18, none), (19, none)]
  | 22 => [(3, none), (5, none), (7, none), (8, none), (10, none), (12, none), (13, none), (15, none), (17, none), (18, none), (19, none), (146, none)]
  | 23 => [(3, none), (5, none), (7, none), (8, none), (10, none), (12, none), (13, none), (15, none), (17, none), (18, none), (19, none)]
  | 24 => [(3, none), (5, none), (7, none), (8, none), (10, none), (12, none), (13, none), (15, none), (17, none), (18, none), (19, none), (20, none)]
  | 25 => [(3, none), (5, none), (7, none), (8, none), (10, none), (12, none), (13, none), (15, none), (17, none), (18, none), (19, none), (20, none), (21, none)]
  | 26 => [(3, none), (5, none), (7, none), (8, none), (10, none), (12, none), (13, none), (15, none), (17, none), (18, none), (19, none)]
  | 27 => [(3, none), (5, none), (7, none), (8, none), (10, none), (12, none), (13, none), (15, none), (17, none)]
  | 28 => [(7, none), (8, none), (10, none), (12, none), (13, none), (22, none)]
  | 29 => [(7, none), (8, none), (10, none), (12, none), (13, none), (22, none), (23, none)]
  | 30 => [(7, none), (8, none), (10, none), (12, none), (13, none), (22, none), (23, none), (196, none)]
  | 31 => [(7, none), (8, none), (10, none), (12, none), (13, none), (22, none), (23, none)]
  | 32 => [(7, none), (8, none), (10, none), (12, none), (13, none), (22, none), (23, none), (24, none), (25, none)]
  | 33 => [(7, none), (8, none), (10, none), (12, none), (13, none), (22, none), (23, none), (24, none), (25, none), (26, none), (28, none)]
  | 34 => [(7, none), (8, none), (10, none), (12, none), (13, none), (22, none), (23, none), (24, none), (250, none)]
  | 35 => [(6, none)]
  | 36 => [(7, none), (8, none), (10, none), (12, none), (13, none), (22, none), (23, none), (24, none), (29, none)]
  | 37 => [(7, none), (8, none), (10, none), (12, none), (13, none), (22, none), (23, none), (24, none), (29, none), (254, none)]
  | 38 => [(7, none), (8, none), (10, none), (12, none), (13, none), (22, none), (23, none), (24, none), (29, none)]
  | 39 => [(7, none), (8, none), (10, none), (12, none), (13, none), (22, none), (23, none), (24, none), (29, none), (263, none)]
  | 40 => [(6, none)]
  | 41 => [(6, none)]
  | _ => []
def tb12 : List (Nat × (List D → Option D)) := (44, s44) :: (20, s20) :: (25, s25) :: (30, s30) :: (43, s43) :: (45, s45) :: (48, s48) :: []
theorem dtb12 : DelOk Tryz.prog (delOf tb12) := (del_cons (del_cons (del_cons (del_cons (del_cons (del_cons (del_cons del_nil call48 ok48) call45 ok45) call43 ok43) call30 ok30) call25 ok25) call20 ok20) call44 ok44)
def cellsM (l : List Int) (m : Nat) : List X := (l.map rInt.enc).flatten.map X.d ++ List.replicate m (.d .top)
theorem flatI : ∀ l : List Int, (l.map rInt.enc).flatten = l.map DI
  | [] => rfl
  | a :: t => by
    have ih := flatI t
    simp only [List.map_cons, List.flatten_cons, ih]; rfl
theorem cellsM_get {l : List Int} {m p : Nat} (h : p < l.length) : (cellsM l m)[p]? = some (.d (DI l[p])) := by
  unfold cellsM
  rw [flatI, List.getElem?_append_left (by simpa using h)]
  simp [h]
theorem cellsM_len (l : List Int) (m : Nat) : (cellsM l m).length = l.length + m := by
  unfold cellsM; rw [flatI]; simp
theorem cellsM_rd {l : List Int} {m p : Nat} (h : p < l.length) : ((cellsM l m).drop p).take 1 = [.d (DI l[p])] := by
  have h2 : p < (cellsM l m).length := by rw [cellsM_len]; omega
  rw [List.drop_eq_getElem_cons h2]
  have := cellsM_get (m := m) h
  rw [List.getElem?_eq_getElem h2] at this
  simp only [Option.some.injEq] at this
  simp [this]
theorem cellsM_wr {l : List Int} {m p : Nat} {v : Int} (h : p < l.length) : (cellsM l m).take p ++ [.d (DI v)] ++ (cellsM l m).drop (p + 1) = cellsM (l.set p v) m := by
  unfold cellsM
  rw [flatI, flatI, List.take_append_of_le_length (by simp; omega), List.drop_append_of_le_length (by simp; omega), ← List.append_assoc]
  congr 1
  rw [List.set_eq_take_append_cons_drop, if_pos h]
  simp [List.map_take, List.map_drop]
theorem cellsM_d {l : List Int} {m : Nat} : ∀ c ∈ cellsM l m, ∃ d, c = .d d := by
  intro c hc
  unfold cellsM at hc
  rcases List.mem_append.1 hc with h | h
  · obtain ⟨d, _, rfl⟩ := List.mem_map.1 h; exact ⟨d, rfl⟩
  · exact ⟨_, List.eq_of_mem_replicate h⟩
theorem allM (l : List Int) (m : Nat) (P : X → Prop) (h : ∀ d, P (.d d)) : (∀ c, c ∈ cellsM l m → P c) = True := by
  refine eq_true fun c hc => ?_
  obtain ⟨d, rfl⟩ := cellsM_d c hc
  exact h d
theorem closeC_dM (kb : List (Nat × Nat × Nat)) (b : Nat) : ∀ (cs : List X) (i : Nat) (av nw : List Nat), (∀ c ∈ cs, ∃ d, c = .d d) → closeC kb b i cs av nw = (cs, av, nw)
  | [], _, _, _, _ => rfl
  | c :: t, i, av, nw, h => by
    obtain ⟨d, rfl⟩ := h c (by simp)
    unfold closeC
    simp only [closeC_dM kb b t _ _ _ fun c hc => h c (by simp [hc]), closeX]
    cases annOf kb b i <;> rfl
theorem closeM (l : List Int) (m : Nat) (kb : List (Nat × Nat × Nat)) (b i : Nat) (av nw : List Nat) : closeC kb b i (cellsM l m) av nw = (cellsM l m, av, nw) := closeC_dM kb b _ i av nw cellsM_d
theorem appSt_M (l : List Int) (σ1 : St) (m : Nat) : appSt σ1 68 1 (l.map rInt.enc) m = ⟨(68, .bs 68 0 l.length 1) :: σ1.tmps, (68, cellsM l m) :: σ1.boxes, σ1.toks, σ1.maps⟩ := by
  unfold appSt cellsM
  rw [List.length_map]
def s12 : List D → Option D := sp3 (cAgg rTbl) (cList rInt) (cAgg rMor) cBool fun x l y => if namesOk x ∧ morOk y then some true else none
set_option maxHeartbeats 16000000 in
theorem ok12 : ∀ ds d, s12 ds = some d → PureC Tryz.prog 12 ds d := ok_sp3 fun x l y r hr => by
  split at hr
  · rename_i hc
    cases hr
    obtain ⟨hn, ⟨a0, a1⟩, ⟨p0, p1⟩, ⟨v0, v1⟩, hby⟩ := hc
    refine pure_handD Tryz.func12 rfl rfl (Nat.le_of_ble_eq_true rfl) fun m w a I ha0 => ?_
    have hcx := mkCx_ok dtb12 265 kp12 [(15, 0, 2), (15, 1, 2), (18, 1, 2)]
    have fin : ∀ (bs : List (Nat × List X)) (tk : List Nat) (mp : List (Nat × (Nat × List (Value × Value)))) g' a' w', Inv 265 m (pureD w []) g' ⟨[(6, .d (DB true))], bs, tk, mp⟩ a' w' → bodyPostD Tryz.prog Tryz.f12 (RetR m w (DB true)) .ret a' w' := by
      intro bs tk mp g' a' w' I'
      refine post_ret hcx I' (r := [DB true]) ?_ rfl
      rw [Tryz.results12]; simp
    by_cases h1 : readE x l = 0
    · have hR : okR x l := h1
      obtain ⟨hT, hll, hlv⟩ := okR_of hR
      have f := fine_of hT
      have hk1 := f.k1
      have hk8 := f.k8
      have hp1 := f.p1
      have hp5 := f.p5
      have hKI : ¬ (x.kinds.length : Int) = 0 := by omega
      have hK0 : ¬ x.kinds = [] := fun h => by rw [h] at hk1; simp at hk1
      have e1 := mod_nat (k := x.kinds.length) a0
      have hA : y.a.toNat % x.kinds.length < x.kinds.length := Nat.mod_lt _ hk1
      generalize y.a.toNat % x.kinds.length = A at *
      have w1 := wrap_small y.a (by omega) (by omega)
      have w2 := wrap_small y.prop (by omega) (by omega)
      have w3 := wrap_small y.reading (by omega) (by omega)
      have w4 := wrap_small (A : Int) (by omega) (by omega)
      have hS : setsR x l = (allR x l, 0) := by unfold setsR; rw [if_neg (by simp [h1])]
      have hSl : (allR x l).length < 1000000 := by have := allR_len (l := l) hk8; omega
      have hse := sold_err hR hA
      obtain ⟨sq, hsq⟩ : ∃ q, q = soldR x l A := ⟨_, rfl⟩
      have hL : allR x l = allR x l := rfl
      generalize hLL : allR x l = L at *
      rw [← hsq] at hse
      obtain ⟨so, sv, se⟩ := sq
      simp only at hse
      refine am_cutF (α := Unit) (fun _ => ⟨[(1, .d (.sl 1 (l.map rInt.enc))), (3, .loc 3 0), (5, .loc 5 0), (7, .d (DI A)), (8, .d (.sl 1 (L.map rInt.enc))), (10, .loc 10 0), (12, .d (DI se)), (65, .d (DB false))], [(3, [.d (.sl 2 (x.props.map rPrp.enc)), .d (.sl 2 (x.kinds.map rKnd.enc)), .d (DI x.purity)]), (5, [.d (.v (.int .u8 y.a)), .d (.v (.int .u8 y.prop)), .d (.v (.int .u32 y.reading)), .d (.sl 1 (y.by_.map (rK .u16).enc))]), (10, [.d (DI so.lo), .d (DI so.hi)])], [], []⟩) hcx 5 _ rfl (by kernel_rfl) (by kernel_rfl) (fun _ _ => rfl) _ _ _ _ I ⟨(), ?_⟩ ?_
      · rcases hse with rfl | rfl
        · simp [cutA, kp12, tb12, s44, s25, s30, sets_eq, sold_eq, rTbl_enc, rTbl_dec, rMor_enc, rInt_decL, rInt_k, rKnd_k, rSpn_enc, hn, h1, hKI, hK0, w1, w4, e1, hS, ← hsq]
        · simp [cutA, kp12, tb12, s44, s25, s30, sets_eq, sold_eq, rTbl_enc, rTbl_dec, rMor_enc, rInt_decL, rInt_k, rKnd_k, rSpn_enc, hn, h1, hKI, hK0, w1, w4, e1, hS, ← hsq]
      intro _ g1 a1 w1' I1
      show Code.wpIn _ _ _ (cutB 5 _) _ _ _
      refine wpIn_seq ?_
      have hne : l.map rInt.enc ≠ [] := by
        intro h
        have : l.length = 0 := by rw [← List.length_map (f := rInt.enc), h]; rfl
        omega
      have hbl : l.length * 8 ≤ 140737488355328 := by omega
      have hbl2 : l.length ≤ 140737488355328 := by omega
      refine am_appB hcx 2 68 rfl rfl rfl rfl rfl rfl rfl rfl rfl rfl rfl I1 ?_
      simp [appPre, kp12, hne, hbl, hbl2, appKs, appSt_M, regQs, allM, closeM]
      intro mm g2 a2 w2' I2
      show Code.wpIn _ _ _ _ _ _ _
      have e2 := mod_nat (k := l.length) p0
      have hl0 : 0 < l.length := by omega
      have hP : y.prop.toNat % l.length < l.length := Nat.mod_lt _ hl0
      generalize y.prop.toNat % l.length = p at *
      have hLI : ¬ (l.length : Int) = 0 := by omega
      have hL0 : ¬ l = [] := fun h => by rw [h] at hl0; simp at hl0
      have hpI : (p : Int) < l.length := by omega
      have w5 := wrap_small (p : Int) (by omega) (by omega)
      have e3 : y.reading.tmod 100001 = y.reading % 100001 := Int.tmod_eq_emod_of_nonneg v0
      have w6 := wrap_small (y.reading % 100001) (by omega) (by omega)
      have c1 := cellsM_get (m := mm) hP
      have c2 := cellsM_rd (m := mm) hP
      have c3 := cellsM_wr (m := mm) (v := y.reading % 100001) hP
      have c4 := cellsM_len l mm
      have c5 : p + 1 ≤ (cellsM l mm).length := by omega
      have hg : l.getD p 0 = l[p] := getD_at _ _ _ hP
      have vr : 0 ≤ y.reading % 100001 ∧ y.reading % 100001 ≤ 100000 := by omega
      have hMR := more_ok hR (p := p) vr.1 vr.2
      have hMF := more_finer x l p (y.reading % 100001)
      have hMl := moreL_len l p (y.reading % 100001)
      have hFF := fin_finer hR hby (p := p) vr.1 vr.2
      have hFR := fin_okR hMR hby
      refine am_cutF (α := Bool) (fun b => ⟨[(3, .loc 3 0), (5, .loc 5 0), (7, .d (DI A)), (8, .d (.sl 1 (L.map rInt.enc))), (10, .loc 10 0), (12, .d (DI se)), (13, .bs 68 0 l.length 1), (14, .d (DI p)), (79, .d (DB b))], [(3, [.d (.sl 2 (x.props.map rPrp.enc)), .d (.sl 2 (x.kinds.map rKnd.enc)), .d (DI x.purity)]), (5, [.d (.v (.int .u8 y.a)), .d (.v (.int .u8 y.prop)), .d (.v (.int .u32 y.reading)), .d (.sl 1 (y.by_.map (rK .u16).enc))]), (10, [.d (DI so.lo), .d (DI so.hi)]), (68, cellsM (moreL l p (y.reading % 100001)) mm)], [], []⟩) hcx 1 _ rfl (by kernel_rfl) (by kernel_rfl) (fun _ _ => rfl) _ _ _ _ I2 ?_ ?_
      · by_cases c : l[p] = -1
        · have hm : moreL l p (y.reading % 100001) = l.set p (y.reading % 100001) := by unfold moreL; rw [if_pos (by rw [hg]; exact c)]
          rw [hm]
          have c' : (l[p] == -1) = true := by simpa using c
          refine ⟨true, ?_⟩
          simp [cutA, kp12, tb12, rMor_enc, rInt_k, hLI, hL0, hP, hpI, e2, e3, w2, w3, w5, w6, c1, c2, c3, c5, c', c, allM, closeM]
        · have hm : moreL l p (y.reading % 100001) = l := by unfold moreL; rw [if_neg (by rw [hg]; exact c)]
          rw [hm]
          have c' : (l[p] == -1) = false := by simpa using c
          refine ⟨false, ?_⟩
          simp [cutA, kp12, tb12, rMor_enc, rInt_k, hLI, hL0, hP, hpI, e2, e3, w2, w3, w5, w6, c1, c2, c3, c5, c', c, allM, closeM]
      intro b g3 a3 w3' I3
      obtain ⟨g4, I4⟩ := freezeT_at hcx (b := 68) (t := 13) (n := l.length) (k := 1) (rows := (moreL l p (y.reading % 100001)).map rInt.enc) (tail := List.replicate mm (.d .top)) rfl rfl (fun r hr => by
        obtain ⟨b, _, rfl⟩ := List.mem_map.1 hr; rfl) (by rw [List.length_map]; exact hMl) hbl2 rfl I3 I3.deferred
      generalize moreL l p (y.reading % 100001) = ML at *
      refine am_code hcx (by kernel_rfl) (by kernel_rfl) I4 (fun _ _ => rfl) ?_
      simp [cutB, kp12, tb12]
      (generalize hLoopQ : Cx.loop _ _ _ = rLoopQ; apply loop_thenK hLoopQ (fun k => ⟨[(3, .loc 3 0), (5, .loc 5 0), (7, .d (DI A)), (8, .d (.sl 1 (L.map rInt.enc))), (10, .loc 10 0), (12, .d (DI se)), (13, .d (.sl 1 (ML.map rInt.enc))), (15, .loc 15 0), (16, .d (DI k))], [(3, [.d (.sl 2 (x.props.map rPrp.enc)), .d (.sl 2 (x.kinds.map rKnd.enc)), .d (DI x.purity)]), (5, [.d (.v (.int .u8 y.a)), .d (.v (.int .u8 y.prop)), .d (.v (.int .u32 y.reading)), .d (.sl 1 (y.by_.map (rK .u16).enc))]), (10, [.d (DI so.lo), .d (DI so.hi)]), (15, [.sl 2 ((finPs x y.by_ k).map rPrp.enc) (.tok 101500), .sl 2 [] (.tok 101501), .d (DI x.purity)])], [101501, 101500], []⟩) x.props.length rfl; rotate_left; (show _ < 281474976710656; omega); (exact fun h => h); rotate_left; all_goals clear hLoopQ)
      · intro j hj
        have y1 := wrap_small ((j : Int) + 1) (by omega) (by omega)
        have hjl : (j : Int) < x.props.length := by omega
        have eE := errV_at hj
        have hev := f.errv hj
        have ht := turn_bd hby (j : Int)
        have cN : wordOk y.by_ ∧ 0 ≤ (j : Int) ∧ (j : Int) ≤ 1000000 := ⟨hby, by omega, by omega⟩
        have z1 := wrap_small (errV x j + 1) (by omega) (by omega)
        have z2 : (turnV y.by_ j).tmod (errV x j + 1) = turnV y.by_ j % (errV x j + 1) := Int.tmod_eq_emod_of_nonneg ht.1
        have q1 := Int.emod_nonneg (turnV y.by_ j) (show errV x j + 1 ≠ 0 by omega)
        have q2 := Int.emod_lt_of_pos (turnV y.by_ j) (show 0 < errV x j + 1 by omega)
        have z3 := wrap_small (turnV y.by_ j % (errV x j + 1)) (by omega) (by omega)
        have z4 := wrap_small (errV x j - turnV y.by_ j % (errV x j + 1)) (by omega) (by omega)
        have z5 : ¬ errV x j + 1 = 0 := by omega
        have eF : errV x j - turnV y.by_ j % (errV x j + 1) = finErr x y.by_ j := rfl
        have hl := finPs_len x y.by_ j
        rw [finPs_succ, getD_at _ _ _ hj]
        generalize finPs x y.by_ j = R at *
        have z6 : R.length + 1 ≤ 140737488355328 := by omega
        have z7 : (R.length + 1) * 24 ≤ 140737488355328 := by omega
        simp [kp12, tb12, s48, rPrp_enc, rPrp_k, rW_decL, hj, hjl, y1, eE, cN, z1, z2, z3, z4, z5, z6, z7, ← eF]
      simp [kp12, tb12, rPrp_k]
      (generalize hLoopQ : Cx.loop _ _ _ = rLoopQ; apply loop_thenK hLoopQ (fun k => ⟨[(3, .loc 3 0), (5, .loc 5 0), (7, .d (DI A)), (8, .d (.sl 1 (L.map rInt.enc))), (10, .loc 10 0), (12, .d (DI se)), (13, .d (.sl 1 (ML.map rInt.enc))), (15, .loc 15 0), (17, .d (DI k))], [(3, [.d (.sl 2 (x.props.map rPrp.enc)), .d (.sl 2 (x.kinds.map rKnd.enc)), .d (DI x.purity)]), (5, [.d (.v (.int .u8 y.a)), .d (.v (.int .u8 y.prop)), .d (.v (.int .u32 y.reading)), .d (.sl 1 (y.by_.map (rK .u16).enc))]), (10, [.d (DI so.lo), .d (DI so.hi)]), (15, [.sl 2 ((finPs x y.by_ x.props.length).map rPrp.enc) (.tok 101500), .sl 2 ((finKs x y.by_ k).map rKnd.enc) (.tok 101501), .d (DI x.purity)])], [101501, 101500], []⟩) x.kinds.length rfl; rotate_left; (show _ < 281474976710656; omega); (exact fun h => h); rotate_left; all_goals clear hLoopQ)
      · intro k hk
        have y1 := wrap_small ((k : Int) + 1) (by omega) (by omega)
        have hkl : (k : Int) < x.kinds.length := by omega
        have hl := finKs_len x y.by_ k
        rw [finKs_succ, getD_at _ _ _ hk]
        generalize finKs x y.by_ k = R at *
        generalize finPs x y.by_ x.props.length = R0 at *
        have z6 : R.length + 1 ≤ 140737488355328 := by omega
        have z7 : (R.length + 1) * 40 ≤ 140737488355328 := by omega
        simp [kp12, tb12, rKnd_enc, rKnd_k, hk, hkl]
        (generalize hLoopQ : Cx.loop _ _ _ = rLoopQ; apply loop_then hLoopQ (fun i => ⟨[(3, .loc 3 0), (5, .loc 5 0), (7, .d (DI A)), (8, .d (.sl 1 (L.map rInt.enc))), (10, .loc 10 0), (12, .d (DI se)), (13, .d (.sl 1 (ML.map rInt.enc))), (15, .loc 15 0), (17, .d (DI k)), (18, .loc 18 0), (19, .d (DI i))], [(3, [.d (.sl 2 (x.props.map rPrp.enc)), .d (.sl 2 (x.kinds.map rKnd.enc)), .d (DI x.purity)]), (5, [.d (.v (.int .u8 y.a)), .d (.v (.int .u8 y.prop)), .d (.v (.int .u32 y.reading)), .d (.sl 1 (y.by_.map (rK .u16).enc))]), (10, [.d (DI so.lo), .d (DI so.hi)]), (15, [.sl 2 (R0.map rPrp.enc) (.tok 101500), .sl 2 (R.map rKnd.enc) (.tok 101501), .d (DI x.purity)]), (18, [.d (DS x.kinds[k].name), .sl 2 ((finSs x y.by_ k i).map rSpn.enc) (.tok 101801)])], [101801, 101501, 101500], []⟩) x.props.length (by first | (simp; done) | (simp; rfl) | (simp; simp [*])); rotate_left; (show _ < 281474976710656; omega); rfl; rotate_left; all_goals clear hLoopQ)
        · intro i hi
          have u1 := wrap_small ((i : Int) + 1) (by omega) (by omega)
          have hil : (i : Int) < x.props.length := by omega
          obtain ⟨hpa, ea, r1, r2, r3⟩ := f.rng hk hi
          have hpaI : (i : Int) < x.kinds[k].props.length := by omega
          have ht := turn_bd hby ((k : Int) + i)
          have u2 := wrap_small ((k : Int) + i) (by omega) (by omega)
          have cN : wordOk y.by_ ∧ 0 ≤ (k : Int) + i ∧ (k : Int) + i ≤ 1000000 := ⟨hby, by omega, by omega⟩
          have d3 : (turnV y.by_ ((k : Int) + i)).tdiv 3 = turnV y.by_ ((k : Int) + i) / 3 := Int.tdiv_eq_ediv_of_nonneg ht.1
          have d5 : (turnV y.by_ ((k : Int) + i)).tdiv 5 = turnV y.by_ ((k : Int) + i) / 5 := Int.tdiv_eq_ediv_of_nonneg ht.1
          have u3 := wrap_small (turnV y.by_ ((k : Int) + i) / 3) (by omega) (by omega)
          have u4 := wrap_small (turnV y.by_ ((k : Int) + i) / 5) (by omega) (by omega)
          have am := among_bd (n := turnV y.by_ ((k : Int) + i) / 3) r2
          have eLo : amongV (rngV x k i) (turnV y.by_ ((k : Int) + i) / 3) = finLo x y.by_ k i := rfl
          have eHi : amongV ⟨finLo x y.by_ k i, (rngV x k i).hi⟩ (turnV y.by_ ((k : Int) + i) / 5) = finHi x y.by_ k i := rfl
          rw [eLo] at am
          have cA : (0 ≤ (rngV x k i).lo ∧ (rngV x k i).lo ≤ (rngV x k i).hi ∧ (rngV x k i).hi ≤ 1000000) ∧ 0 ≤ turnV y.by_ ((k : Int) + i) / 3 ∧ turnV y.by_ ((k : Int) + i) / 3 ≤ 1000000 := ⟨⟨r1, r2, by omega⟩, by omega, by omega⟩
          have cB : (0 ≤ finLo x y.by_ k i ∧ finLo x y.by_ k i ≤ (rngV x k i).hi ∧ (rngV x k i).hi ≤ 1000000) ∧ 0 ≤ turnV y.by_ ((k : Int) + i) / 5 ∧ turnV y.by_ ((k : Int) + i) / 5 ≤ 1000000 := ⟨⟨by omega, by omega, by omega⟩, by omega, by omega⟩
          have hl2 := finSs_len x y.by_ k i
          rw [finSs_succ]
          generalize finSs x y.by_ k i = R2 at *
          have z8 : R2.length + 1 ≤ 140737488355328 := by omega
          have z9 : (R2.length + 1) * 16 ≤ 140737488355328 := by omega
          simp [kp12, tb12, s48, s45, rKnd_enc, rKnd_k, rSpn_enc, rSpn_k, rSpn_dec, spn_mk', spn_mk'', rPrp_k, rW_decL, hk, hkl, hi, hil, hpa, hpaI, ea, u1, u2, u3, u4, cN, cA, cB, d3, d5, eLo, eHi, z8, z9]
        · simp [kp12, tb12, rPrp_k, rKnd_k, y1, z6, z7]
      simp [kp12, tb12, rKnd_k]
      have hns : ∀ (k : Nat), k < 2 → k = 0 ∨ k = 1 := fun k h => by omega
      have hn2 : namesOk (finT x y.by_) := text_names (fin_ok hT hby)
      (generalize hLoopQ : Cx.loop _ _ _ = rLoopQ; apply loop_thenK hLoopQ (fun k => ⟨[(7, .d (DI A)), (8, .d (.sl 1 (L.map rInt.enc))), (10, .loc 10 0), (12, .d (DI se)), (13, .d (.sl 1 (ML.map rInt.enc))), (22, .d (.sl 3 [rTbl.enc x, rTbl.enc (finT x y.by_)])), (23, .d (DI k))], [(10, [.d (DI so.lo), .d (DI so.hi)])], [], []⟩) 2 rfl; rotate_left; (show _ < 281474976710656; omega); (exact fun h => h); rotate_left; all_goals clear hLoopQ)
      · intro j hj
        rcases hns j hj with rfl | rfl
        · have hF := hMF
          have hYR := hMR
          have hnY := hn
          have hfs := finer_sold hR hYR hF hA
          have hYS : setsR x ML = (allR x ML, 0) := by
            have h : readE x ML = 0 := hYR
            unfold setsR; rw [if_neg (by simp [h])]
          have hYl : (allR x ML).length < 1000000 := by
            have := allR_len (x := x) (l := ML) (by rw [hF.k]; exact hk8)
            omega
          have hin : ∀ s ∈ allR x ML, inB L s = true := fun s hs => by
            rw [← hLL]; exact inB_iff.2 (finer_sets hk8 hF hs)
          rw [← hsq] at hfs
          generalize hsY : soldR x ML A = sY at *
          obtain ⟨r, rv, re⟩ := sY
          simp only at hfs
          generalize allR x ML = M at *
          have hd : rTbl.dec (List.take 3 (rTbl.enc x)) = some x := rTbl.de _
          have hk3 : ∀ z : Tbl, (rTbl.enc z).length = 3 := fun _ => rfl
          rcases hfs with rfl | ⟨rfl, rfl, q1, q2⟩
          · simp [kp12, tb12, s25, s30, sets_eq, sold_eq, rInt_decL, rSpn_enc, hk3, hnY, hd, hYS, hsY]
            (generalize hLoopQ : Cx.loop _ _ _ = rLoopQ; apply loop_then hLoopQ (fun i => ⟨[(7, .d (DI A)), (8, .d (.sl 1 (L.map rInt.enc))), (10, .loc 10 0), (12, .d (DI se)), (13, .d (.sl 1 (ML.map rInt.enc))), (22, .d (.sl 3 [rTbl.enc x, rTbl.enc (finT x y.by_)])), (23, .d (DI 0)), (24, .d (.sl 1 (M.map rInt.enc))), (29, .d (DI i))], [(10, [.d (DI so.lo), .d (DI so.hi)])], [], []⟩) M.length (by first | (simp; done) | (simp; rfl) | (simp; simp [*])); rotate_left; (show _ < 281474976710656; omega); rfl; rotate_left; all_goals clear hLoopQ)
            · intro i hi
              have u1 := wrap_small ((i : Int) + 1) (by omega) (by omega)
              have hil : (i : Int) < M.length := by omega
              have hmi := hin _ (List.getElem_mem hi)
              simp [kp12, tb12, s43, rInt_decL, rInt_enc, rInt_k, hi, hil, hmi, hSl, u1]
            · simp [kp12, tb12, rInt_k]
          · have q1' : ¬ r.lo < so.lo := by omega
            have q2' : ¬ so.hi < r.hi := by omega
            simp [kp12, tb12, s25, s30, sets_eq, sold_eq, rInt_decL, rSpn_enc, hk3, hnY, hd, hYS, hsY, q1', q2']
            (generalize hLoopQ : Cx.loop _ _ _ = rLoopQ; apply loop_then hLoopQ (fun i => ⟨[(7, .d (DI A)), (8, .d (.sl 1 (L.map rInt.enc))), (10, .loc 10 0), (12, .d (DI 0)), (13, .d (.sl 1 (ML.map rInt.enc))), (22, .d (.sl 3 [rTbl.enc x, rTbl.enc (finT x y.by_)])), (23, .d (DI 0)), (24, .d (.sl 1 (M.map rInt.enc))), (29, .d (DI i))], [(10, [.d (DI so.lo), .d (DI so.hi)])], [], []⟩) M.length (by first | (simp; done) | (simp; rfl) | (simp; simp [*])); rotate_left; (show _ < 281474976710656; omega); rfl; rotate_left; all_goals clear hLoopQ)
            · intro i hi
              have u1 := wrap_small ((i : Int) + 1) (by omega) (by omega)
              have hil : (i : Int) < M.length := by omega
              have hmi := hin _ (List.getElem_mem hi)
              simp [kp12, tb12, s43, rInt_decL, rInt_enc, rInt_k, hi, hil, hmi, hSl, u1]
            · simp [kp12, tb12, rInt_k]
        · have hF := hFF
          have hYR := hFR
          have hnY := hn2
          have hfs := finer_sold hR hYR hF hA
          have hYS : setsR (finT x y.by_) ML = (allR (finT x y.by_) ML, 0) := by
            have h : readE (finT x y.by_) ML = 0 := hYR
            unfold setsR; rw [if_neg (by simp [h])]
          have hYl : (allR (finT x y.by_) ML).length < 1000000 := by
            have := allR_len (x := (finT x y.by_)) (l := ML) (by rw [hF.k]; exact hk8)
            omega
          have hin : ∀ s ∈ allR (finT x y.by_) ML, inB L s = true := fun s hs => by
            rw [← hLL]; exact inB_iff.2 (finer_sets hk8 hF hs)
          rw [← hsq] at hfs
          generalize hsY : soldR (finT x y.by_) ML A = sY at *
          obtain ⟨r, rv, re⟩ := sY
          simp only at hfs
          generalize allR (finT x y.by_) ML = M at *
          have hd : rTbl.dec (List.take 3 (rTbl.enc (finT x y.by_))) = some (finT x y.by_) := rTbl.de _
          have hk3 : ∀ z : Tbl, (rTbl.enc z).length = 3 := fun _ => rfl
          rcases hfs with rfl | ⟨rfl, rfl, q1, q2⟩
          · simp [kp12, tb12, s25, s30, sets_eq, sold_eq, rInt_decL, rSpn_enc, hk3, hnY, hd, hYS, hsY]
            (generalize hLoopQ : Cx.loop _ _ _ = rLoopQ; apply loop_then hLoopQ (fun i => ⟨[(7, .d (DI A)), (8, .d (.sl 1 (L.map rInt.enc))), (10, .loc 10 0), (12, .d (DI se)), (13, .d (.sl 1 (ML.map rInt.enc))), (22, .d (.sl 3 [rTbl.enc x, rTbl.enc (finT x y.by_)])), (23, .d (DI 1)), (24, .d (.sl 1 (M.map rInt.enc))), (29, .d (DI i))], [(10, [.d (DI so.lo), .d (DI so.hi)])], [], []⟩) M.length (by first | (simp; done) | (simp; rfl) | (simp; simp [*])); rotate_left; (show _ < 281474976710656; omega); rfl; rotate_left; all_goals clear hLoopQ)
            · intro i hi
              have u1 := wrap_small ((i : Int) + 1) (by omega) (by omega)
              have hil : (i : Int) < M.length := by omega
              have hmi := hin _ (List.getElem_mem hi)
              simp [kp12, tb12, s43, rInt_decL, rInt_enc, rInt_k, hi, hil, hmi, hSl, u1]
            · simp [kp12, tb12, rInt_k]
          · have q1' : ¬ r.lo < so.lo := by omega
            have q2' : ¬ so.hi < r.hi := by omega
            simp [kp12, tb12, s25, s30, sets_eq, sold_eq, rInt_decL, rSpn_enc, hk3, hnY, hd, hYS, hsY, q1', q2']
            (generalize hLoopQ : Cx.loop _ _ _ = rLoopQ; apply loop_then hLoopQ (fun i => ⟨[(7, .d (DI A)), (8, .d (.sl 1 (L.map rInt.enc))), (10, .loc 10 0), (12, .d (DI 0)), (13, .d (.sl 1 (ML.map rInt.enc))), (22, .d (.sl 3 [rTbl.enc x, rTbl.enc (finT x y.by_)])), (23, .d (DI 1)), (24, .d (.sl 1 (M.map rInt.enc))), (29, .d (DI i))], [(10, [.d (DI so.lo), .d (DI so.hi)])], [], []⟩) M.length (by first | (simp; done) | (simp; rfl) | (simp; simp [*])); rotate_left; (show _ < 281474976710656; omega); rfl; rotate_left; all_goals clear hLoopQ)
            · intro i hi
              have u1 := wrap_small ((i : Int) + 1) (by omega) (by omega)
              have hil : (i : Int) < M.length := by omega
              have hmi := hin _ (List.getElem_mem hi)
              simp [kp12, tb12, s43, rInt_decL, rInt_enc, rInt_k, hi, hil, hmi, hSl, u1]
            · simp [kp12, tb12, rInt_k]
      simp [kp12, tb12, s20, codeK_some]
      exact fun g' a' w' I' => fin _ _ _ g' a' w' I'
    · have h2 : (readE x l != 0) = true := by simpa using h1
      refine am_cut hcx 5 _ rfl (by kernel_rfl) (by kernel_rfl) (fun _ _ => rfl) _ _ _ _ I ?_
      simp [cutA, kp12, tb12, s44, s20, rTbl_enc, rTbl_dec, rMor_enc, rInt_decL, rInt_k, hn, h1, h2, codeK_some]
      exact fun g' a' w' I' => fin _ _ _ g' a' w' I'
  · cases hr
end Go.Proofs.YtkldmnladkcfeaaGreatDoor
