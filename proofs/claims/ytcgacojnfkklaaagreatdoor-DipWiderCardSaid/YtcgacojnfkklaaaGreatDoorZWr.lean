/-
  The program's Write, walked by hand around the builder. Conditions: none.
-/
import Derived.Test.YtcgacojnfkklaaaGreatDoorZPrN
import Derived.Test.YtcgacojnfkklaaaGreatDoorZAmF
namespace Go.Proofs.YtcgacojnfkklaaaGreatDoor
open Go.RowKit Go.Lib
set_option linter.unusedSimpArgs false
set_option linter.unusedVariables false
def kp31 (r : Nat) : List (Nat × Option Nat) := match r with
  | 0 => [(1, none), (2, none), (4, none), (5, none)]
  | 1 => [(1, none), (6, none), (7, none)]
  | 2 => [(1, none), (6, none), (7, none), (20, none)]
  | 3 => [(4, none), (5, none)]
  | 4 => [(1, none), (6, none), (8, none)]
  | 5 => [(6, none), (8, none), (22, none), (23, none), (24, none)]
  | 6 => [(6, none), (8, none), (22, none), (23, none), (24, none), (25, none)]
  | 7 => [(6, none), (8, none), (10, none), (22, none), (23, none), (24, none)]
  | 8 => [(6, none), (8, none), (10, none), (11, none), (22, none), (23, none), (24, none)]
  | 9 => [(6, none), (8, none), (11, none), (22, none), (23, none), (24, none), (45, none)]
  | 10 => [(6, none), (8, none), (11, none), (22, none), (23, none), (24, none)]
  | 11 => [(6, none), (8, none), (22, none), (23, none), (24, none)]
  | 12 => [(6, none), (8, none), (22, none), (23, none), (24, none)]
  | 13 => [(4, none), (5, none)]
  | _ => []
def g31l : List (Nat × (List D → Option D)) := (76, s76) :: (74, s74) :: (54, s54) :: q8
theorem dg31 : DelOk Tryz.prog (delOf g31l) := del_cons (del_cons (del_cons dq8 call54 ok54) call74 ok74) call76 ok76
def turnB : ByteArray := ⟨#[116, 117, 114, 110, 101, 100]⟩
def itoaB (n : Int) : ByteArray := ⟨(Lib.itoa n).toArray⟩
def wordsV (x : Dsh) (d : Dip) : List ByteArray := if d.turned then [(x.baths.getD d.bath.toNat default).name, itoaB d.secs, itoaB d.pause, turnB] else [(x.baths.getD d.bath.toNat default).name, itoaB d.secs, itoaB d.pause]
theorem itoa_dig (n : Nat) : itoaB n = digV n := by
  unfold itoaB digV Lib.itoa
  rw [if_neg (by omega), Int.toNat_natCast]
theorem ba_ext {a b : ByteArray} (h : a.data.toList = b.data.toList) : a = b := by
  apply ByteArray.ext
  exact Array.toList_inj.1 h
theorem line_join (x : Dsh) (o : ByteArray) (d : Dip) (S T : Nat) (h1 : d.secs = S) (h2 : d.pause = T) : lineT x o d = o ++ (joinV (wordsV x d) spB ++ nlB) := by
  unfold lineT wordsV
  rw [h1, h2, itoa_dig, itoa_dig, Int.toNat_natCast, Int.toNat_natCast]
  apply ba_ext
  cases ht : d.turned
  · simp [joinV, Lib.join, List.intercalate, ByteArray.data_append, Array.toList_append, spB, nlB]
  · simp [joinV, Lib.join, List.intercalate, ByteArray.data_append, Array.toList_append, spB, nlB, trB, turnB]
theorem words_size {x : Dsh} {d : Dip} (h : okD x d) : (joinV (wordsV x d) spB).size ≤ 100 ∧ (wordsV x d).length ≤ 4 ∧ 0 < (wordsV x d).length := by
  obtain ⟨B, e1, hB, h6, hn, ⟨S, e2, hS⟩, T, e3, hT⟩ := okD_all h
  have h1 := line_join x ⟨#[]⟩ d S T e2 e3
  have h2 := lineT_size h ⟨#[]⟩
  rw [h1] at h2
  simp only [ByteArray.size_append] at h2
  have h3 : (⟨#[]⟩ : ByteArray).size = 0 := rfl
  refine ⟨by omega, ?_⟩
  unfold wordsV
  split <;> simp
structure WrAt (m : Nat → Nat → Prop) (W : World) (b : Nat) (bs : List Value) (σ : St) (g : Gh) (v : Value) (a : Act) (w : World) : Prop where
  inv : Inv 54 m (pureD W []) g σ a w
  defs : a.defers = []
  bld : BldAt b v bs w
  hb : W.heap.size ≤ b
  ab : Away g b
  av : ∀ q, v.ownBlock = some q → Away g q ∧ W.heap.size ≤ q
theorem BldAt.ltv {b : Nat} {v : Value} {bs : List Value} {w : World} (h : BldAt b v bs w) : ∀ q, v.ownBlock = some q → q < w.heap.size := by
  intro q hq
  rcases h.own.2 with ⟨rfl, _⟩ | ⟨g, cap, cur, rfl, q1, q2, q3⟩
  · cases hq
  · simp only [Value.ownBlock, Option.some.injEq] at hq
    subst hq
    exact (Array.getElem?_eq_some_iff.1 q2).1
theorem WrAt.next {m : Nat → Nat → Prop} {W : World} {b : Nat} {bs : List Value} {σ σ' : St} {g g' : Gh} {v : Value} {a a' : Act} {w w' : World} (h : WrAt m W b bs σ g v a w) (I : Inv 54 m (pureD W []) g' σ' a' w') (hd : a'.defers = []) (hf : ∀ b, b < w.heap.size → Away g b → Away g' b ∧ w'.heap[b]? = w.heap[b]?) : WrAt m W b bs σ' g' v a' w' :=
  ⟨I, hd, h.bld.keep (hf b h.bld.lt h.ab).2 fun q hq => (hf q (h.bld.ltv q hq) (h.av q hq).1).2, h.hb, (hf b h.bld.lt h.ab).1, fun q hq => ⟨(hf q (h.bld.ltv q hq) (h.av q hq).1).1, (h.av q hq).2⟩⟩
theorem strCells_app (a b : ByteArray) : strCells (a ++ b) = strCells a ++ strCells b := by
  simp [strCells, ByteArray.data_append, Array.toList_append]
theorem WrAt.wrote {m : Nat → Nat → Prop} {W : World} {b : Nat} {bs bs' : List Value} {σ : St} {g : Gh} {v v' : Value} {a : Act} {w w' : World} (h : WrAt m W b bs σ g v a w) (hB : BldAt b v' bs' w') (hk : KeepsW w (fun k => k = b ∨ v.ownBlock = some k) w') (hn : ∀ k, v'.ownBlock = some k → v.ownBlock = some k ∨ w.heap.size ≤ k) (d : Nat) (hd : d < 54) {y : Value} : WrAt m W b bs' { σ with tmps := (d, .d .top) :: σ.tmps } g v' (a.put (some d) y) w' := by
  have kn : KeepN w w' := KeepN.of_cells (fun k => k = b ∨ v.ownBlock = some k) (fun k h1 h2 => hk.block k h1 h2) fun k hk => by
    rcases hk with rfl | hk
    · rcases h.bld.blk with h1 | h1 <;> exact ⟨_, _, _, h1⟩
    · rcases h.bld.own.2 with ⟨rfl, _⟩ | ⟨g, cap, cur, rfl, q1, q2, q3⟩
      · cases hk
      · simp only [Value.ownBlock, Option.some.injEq] at hk
        subst hk
        exact ⟨_, _, _, q2⟩
  have I := h.inv.laterA hk kn fun q hq => by
    rcases hq with rfl | hq
    · exact ⟨h.hb, h.ab⟩
    · exact ⟨(h.av q hq).2, (h.av q hq).1⟩
  refine ⟨I.put (d := some d) (fun x hx => by cases hx; exact hd) (x := .d .top) (by simp only [RelX, Rel]), by rw [putAct_defers]; exact h.defs, hB, h.hb, h.ab, fun q hq => ?_⟩
  rcases hn q hq with h1 | h1
  · exact h.av q h1
  · exact ⟨h.inv.awayNew h1, Nat.le_trans h.inv.below.size h1⟩
theorem call75 (xs : Array Value) (w : World) : (callFunc 75 xs).run Tryz.prog w = .ok (.enter 75 xs) w := by kernel_rfl
theorem call77 (xs : Array Value) (w : World) : (callFunc 77 xs).run Tryz.prog w = .ok (.enter 77 xs) w := by kernel_rfl
def s31 : List D → Option D := sp2 (cAgg rDsh) (cList rDip) (cTup2 cStr cInt) fun x l => if namesOk x then some (writeR x l) else none
set_option maxHeartbeats 2000000 in
theorem ok31 : ∀ ds d, s31 ds = some d → PureC Tryz.prog 31 ds d := ok_sp2 fun x l r hr => by
  split at hr
  · rename_i hc
    cases hr
    refine pure_handD Tryz.func31 rfl rfl (Nat.le_of_ble_eq_true rfl) fun m w a I ha => ?_
    have hs := hc
    have hlm := blen_or x
    have hz : rTap.dec [DI 0, DI 0, DI 0] = some ⟨0, 0, 0⟩ := rfl
    refine am_cut (mkCx_ok dg31 54 kp31 []) 2 _ rfl (by kernel_rfl) (by kernel_rfl) (fun _ _ => rfl) _ _ _ _ I ?_
    generalize hQ : (bodyPostD Tryz.prog Tryz.f31 (RetR m w ((cTup2 cStr cInt).enc (writeR x l)))) = Q
    by_cases h : askedE x ⟨0, 0, 0⟩ l = 0
    · simp [cutA, kp31, rDsh_enc, rDsh_dec, rDip_k, rDip_decL, g31l, s54, hs, hlm, hz, h, codeK_some]
      intro g1 a1 w1 I1
      refine wpIn_seq ?_
      refine am_new (mkCx_ok dg31 54 kp31 []) (T := 137) (i := ty137) (by simp) (by decide) I1 fun a2 ha2 I2 => ?_
      have hd2 : a2.defers = [] := by rw [ha2]; exact I1.deferred
      have hA2 : Away g1 w1.heap.size := I1.awayNew (Nat.le_refl _)
      have hB2 : BldAt w1.heap.size (.slice none 0 0) [] (w1.alloc (.cells ty137.zero.cells 137)) := by
        refine ⟨.inl ?_, ⟨by simp, .inl ⟨rfl, rfl⟩⟩, by simp [Value.ownBlock]⟩
        rw [heap_at_new]; rfl
      have hWb : w.heap.size ≤ w1.heap.size := I1.below.size
      generalize w1.heap.size = b at *
      generalize w1.alloc (.cells ty137.zero.cells 137) = w2 at *
      refine wpIn_seq ?_
      refine wpIn_seq ?_
      refine am_away (mkCx_ok dg31 54 kp31 []) (by kernel_rfl) (by kernel_rfl) I2 hd2 rfl rfl (fun _ _ => rfl) ?_
      simp [kp31, rDip_k, awayK_some]
      intro g3 a3 w3 I3 hd3 hs3 hf3
      obtain ⟨_, _, hl⟩ := asked_ok h
      have h30 := hl.2.1
      have J0 : WrAt m w b (strCells (textL x l 0)) _ g3 (.slice none 0 0) a3 w3 := ⟨I3, hd3, hB2.keep (hf3 b hB2.lt hA2).2 (fun k hk => by cases hk), hWb, (hf3 b hB2.lt hA2).1, fun q hq => by cases hq⟩
      refine wpIn_block (loop_hand (fun k a w' => ∃ g v, WrAt m w b (strCells (textL x l k)) ⟨[(6, .loc 6 0), (8, .d (.v (.pointer (some ⟨b, 0, none⟩)))), (22, .d (.sl 4 (l.map rDip.enc))), (23, .d (DI l.length)), (24, .d (DI k))], [(6, [.d (DI x.melt), .d (DI x.coat), .d (DI x.thin), .d (DI x.hold), .d (DI x.back), .d (DI x.draw), .d (DI x.set), .d (DI x.run), .d (.sl 3 (x.baths.map rBth.enc))])], [], []⟩ g v a w') l.length ?_ ?_ ⟨g3, _, J0⟩)
      · rintro k hk a4 w4 ⟨g4, v4, J4⟩
        have hkI : (k : Int) < l.length := by omega
        refine am_awayC (mkCx_ok dg31 54 kp31 []) 1 rfl (by kernel_rfl) (by kernel_rfl) J4.inv J4.defs rfl rfl (fun _ _ => rfl) ?_
        simp [cutA, kp31, hkI, awayK_some]
        intro g5 a5 w5 I5 hd5 hs5 hf5
        have J5 := J4.next I5 hd5 hf5
        show Code.wpIn _ _ _ (cutB 1 _) _ _ _
        refine wpIn_seq (wpIn_block ?_)
        have hd := okL_at hl k hk
        obtain ⟨B, e1, hB, h6, hn, ⟨S, e2, hS⟩, T, e3, hT⟩ := okD_all hd
        have hBl : (B : Int) < x.baths.length := by omega
        have i1 : i64In (S : Int) := ⟨by omega, by omega⟩
        have i2 : i64In (T : Int) := ⟨by omega, by omega⟩
        refine am_awayC (mkCx_ok dg31 54 kp31 []) 2 rfl (by kernel_rfl) (by kernel_rfl) J5.inv J5.defs rfl rfl (fun _ _ => rfl) ?_
        refine awayK_of (e := .normal) (σ' := ⟨[(6, .loc 6 0), (8, .d (.v (.pointer (some ⟨b, 0, none⟩)))), (11, .d (.sl 1 ((wordsV x l[k]).map rStr.enc))), (22, .d (.sl 4 (l.map rDip.enc))), (23, .d (DI l.length)), (24, .d (DI k))] ++ (if l[k].turned then [(45, .d (DB false))] else []), [(6, [.d (DI x.melt), .d (DI x.coat), .d (DI x.thin), .d (DI x.hold), .d (DI x.back), .d (DI x.draw), .d (DI x.set), .d (DI x.run), .d (.sl 3 (x.baths.map rBth.enc))])], [], []⟩) ?_ ?_
        · have g1 : x.baths.getD B default = x.baths[B] := getD_at _ _ _ hB
          cases ht : l[k].turned
          · simp [cutA, kp31, rDip_enc, rBth_enc, rStr_enc, hk, hkI, e1, e2, e3, hB, hBl, g31l, s74, i1, i2, ht, wordsV, itoaB, g1]
          · simp [cutA, kp31, rDip_enc, rBth_enc, rStr_enc, hk, hkI, e1, e2, e3, hB, hBl, g31l, s74, i1, i2, ht, wordsV, itoaB, g1, turnB]
        · intro g6 a6 w6 I6 hd6 hs6 hf6
          have J6 := J5.next I6 hd6 hf6
          obtain ⟨z1, z2, z3⟩ := words_size hd
          have hline := line_join x (textL x l k) l[k] S T e2 e3
          have hnext : textL x l (k + 1) = textL x l k ++ (joinV (wordsV x l[k]) spB ++ nlB) := by rw [textL, getD_at _ _ _ hk, hline]
          generalize wordsV x l[k] = ws at *
          generalize hS : joinV ws spB = J at *
          have hS' : joinV ws ⟨#[32]⟩ = J := hS
          show Code.wpIn _ _ _ (cutB 2 _) _ _ _
          refine am_last (mkCx_ok dg31 54 kp31 []) 3 (by rfl) rfl rfl ?_ J6.inv J6.defs rfl rfl ?_
          · cases l[k].turned <;> simp
          · have z4 : J.size ≤ 100000 := by omega
            have z5 : ws.length ≤ 100000 := by omega
            have z6 : J.size + 1 ≤ 9223372036854775807 := by omega
            have z7 : (⟨#[10]⟩ : ByteArray).size = 1 := rfl
            simp [g31l, s76, hS', z3, z4, z5, z6, z7, rStr_decL, lastKs]
            intro g7 a7 w7 I7 hd7 hs7 hf7
            have J7 := J6.next I7 hd7 hf7
            have e8 : a7.tmps.getD 8 undef = .pointer (some ⟨b, 0, none⟩) := by
              have := J7.inv.tmps 8 (.d (.v (.pointer (some ⟨b, 0, none⟩)))) (by simp [getA])
              simpa [RelX, Rel] using this
            have e50 : a7.tmps.getD 50 undef = .string (J ++ ⟨#[10]⟩) := by
              have := J7.inv.tmps 50 (.d (.v (.string (J ++ ⟨#[10]⟩)))) (by simp [getA])
              simpa [RelX, Rel] using this
            have hsz := textL_size hl k (by omega)
            have hcall := bld_writeK b v4 _ (J ++ ⟨#[10]⟩) w7 J7.bld (by rw [strCells_length, ByteArray.size_append, z7]; omega)
            refine wp_ent (.inl rfl) ?_ hcall ?_
            · simp [execOp, resolve, Deferred.ofValue, invoke, Act.eval, e8, e50, call75]
            · rintro e w8 ⟨rfl, v', hB8, hk8, hn8⟩
              refine ⟨_, rfl, ?_⟩
              have J8 := J7.wrote hB8 hk8 hn8 51 (by decide) (y := .tuple #[.int .i64 (J ++ (⟨#[10]⟩ : ByteArray)).size, .nilIface])
              rw [← strCells_app] at J8
              have hnx : textL x l k ++ (J ++ ⟨#[10]⟩) = textL x l (k + 1) := by rw [hnext]; rfl
              rw [hnx] at J8
              simp only [Exit.inBlock, Exit.then]
              refine am_away (mkCx_ok dg31 54 kp31 []) (by kernel_rfl) (by kernel_rfl) J8.inv J8.defs rfl rfl (fun _ _ => rfl) ?_
              have wk := wrap_small ((k : Int) + 1) (by omega) (by omega)
              refine awayK_of (e := .normal) (σ' := ⟨[(6, .loc 6 0), (8, .d (.v (.pointer (some ⟨b, 0, none⟩)))), (22, .d (.sl 4 (l.map rDip.enc))), (23, .d (DI l.length)), (24, .d (DI ((k + 1 : Nat) : Int)))], [(6, [.d (DI x.melt), .d (DI x.coat), .d (DI x.thin), .d (DI x.hold), .d (DI x.back), .d (DI x.draw), .d (DI x.set), .d (DI x.run), .d (.sl 3 (x.baths.map rBth.enc))])], [], []⟩) ?_ ?_
              · cases l[k].turned <;> simp [kp31, wk]
              · intro g9 a9 w9 I9 hd9 hs9 hf9
                exact ⟨g9, v', J8.next I9 hd9 hf9⟩
      · rintro a4 w4 ⟨g4, v4, J4⟩
        refine am_awayC (mkCx_ok dg31 54 kp31 []) 1 rfl (by kernel_rfl) (by kernel_rfl) J4.inv J4.defs rfl rfl (fun _ _ => rfl) ?_
        simp [cutA, kp31, awayK_some]
        intro g5 a5 w5 I5 hd5 hs5 hf5
        have J5 := J4.next I5 hd5 hf5
        simp only [AEx.out, Exit.then, Exit.inBlock, if_true]
        have e8 : a5.tmps.getD 8 undef = .pointer (some ⟨b, 0, none⟩) := by
          have := J5.inv.tmps 8 (.d (.v (.pointer (some ⟨b, 0, none⟩)))) (by simp [getA])
          simpa [RelX, Rel] using this
        refine wpIn_seq ?_
        refine wpIn_region_list ?_
        unfold wpListIn
        rw [if_pos (by simp [Region.wanted])]
        have hbc : strCells (textL x l l.length) = byteCells (textV x l).data.toList := rfl
        have hisb : IsBuilder 137 5 w.heap.size b (byteCells (textV x l).data.toList) w5 := by
          rw [← hbc]
          have hown : w5.ownsRow w.heap.size 5 1 v4 (strCells (textL x l l.length)).length (strCells (textL x l l.length)) := by
            refine ⟨J5.bld.own.1, ?_⟩
            rcases J5.bld.own.2 with h1 | ⟨gq, cap, cur, h0, q1, q2⟩
            · exact .inl h1
            · exact .inr ⟨gq, cap, cur, h0, (J5.av gq (by rw [h0]; rfl)).2, q2⟩
          rcases J5.bld.blk with h1 | h1
          · exact .inl ⟨hWb, v4, h1, hown, J5.bld.ne⟩
          · exact .inr ⟨hWb, v4, h1, hown, J5.bld.ne⟩
        refine wp_ent (.inl rfl) (f := 77) (args := #[.pointer (some ⟨b, 0, none⟩)]) ?_ (Tryz.Builder_String_any w.heap.size b (textV x l).data.toList w5 hisb J5.inv.below.size) ?_
        · simp [execOp, resolve, Deferred.ofValue, invoke, Act.eval, e8, call77]
        · rintro e w6 ⟨rfl, hb6⟩
          refine ⟨_, rfl, ?_⟩
          unfold wpListIn
          rw [if_pos (by simp [Region.wanted])]
          refine wp_val (.inl rfl) (v := .string (textV x l)) (w' := w6) ?_ ?_
          · have : (a5.put (some 53) (.string ⟨(textV x l).data.toList.toArray⟩)).tmps.getD 53 undef = .string (textV x l) := by
              rw [putAct_get _ _ _ _ (by rw [J5.inv.size]; decide), if_pos rfl]
            simp [execOp, Act.eval, this]
          unfold wpListIn
          rw [if_pos (by simp [Region.wanted])]
          refine wp_val (.inl rfl) (v := .int .i64 0) (w' := w6) rfl ?_
          unfold wpListIn
          simp only [Exit.then]
          refine wpIn_ret ?_
          subst hQ
          have hsz5 := J5.inv.size
          show Leaves _ _ _ _ _ _ _
          simp only [putAct_defers, J5.defs]
          have g4 : ∀ (y z : Value), ((a5.put (some 53) y).put (some 4) z).tmps.getD 4 undef = z := fun y z => by
            rw [putAct_get _ _ _ _ (by rw [putAct_size, hsz5]; decide), if_pos rfl]
          have hres : (List.mapM (resOne (((a5.put (some 53) (.string ⟨(textV x l).data.toList.toArray⟩)).put (some 4) (.string (textV x l))).put (some 5) (.int .i64 0)).tmps) Tryz.f31.results.toList).run Tryz.prog w6 = .ok [.string (textV x l), .int .i64 0] w6 := by
            rw [Tryz.results31]
            have h1 : ((((a5.put (some 53) (.string ⟨(textV x l).data.toList.toArray⟩)).put (some 4) (.string (textV x l))).put (some 5) (.int .i64 0)).tmps).getD 4 undef = .string (textV x l) := by
              rw [putAct_get _ _ _ _ (by rw [putAct_size, putAct_size, hsz5]; decide), if_neg (by decide), g4]
            have h2 : ((((a5.put (some 53) (.string ⟨(textV x l).data.toList.toArray⟩)).put (some 4) (.string (textV x l))).put (some 5) (.int .i64 0)).tmps).getD 5 undef = .int .i64 0 := by
              rw [putAct_get _ _ _ _ (by rw [putAct_size, putAct_size, hsz5]; decide), if_pos rfl]
            simp only [List.mapM_cons, List.mapM_nil, resOne, h1, h2, Sem.run_bind, Sem.run_pure, Result.andThen_ok]
          obtain ⟨v, q1, q2⟩ := ret_rel (m := fun b o => m b o ∨ False) (r := [DS (textV x l), DI 0]) hres (by simp [RelL, Rel])
          refine ⟨v, q1, v, fun _ _ => False, rfl, ?_, fun b o h => h.elim, ?_⟩
          · have h1 := J5.inv.below.below (fun k hk => pureD_no _ _ k hk)
            exact h1.trans hb6
          · rw [show writeR x l = (textV x l, 0) from if_pos h]
            exact q2
    · have h' : (askedE x ⟨0, 0, 0⟩ l != 0) = true := by simpa using h
      simp [cutA, kp31, rDsh_enc, rDsh_dec, rDip_k, rDip_decL, g31l, s54, hs, hlm, hz, h, h', codeK_some]
      intro g' a' w' I'
      show Q .ret a' w'
      subst hQ
      refine post_ret (mkCx_ok dg31 54 kp31 []) I' (r := [DS ⟨#[]⟩, DI (askedE x ⟨0, 0, 0⟩ l)]) ?_ ?_
      · rw [Tryz.results31]; simp
      · rw [show writeR x l = (⟨#[]⟩, askedE x ⟨0, 0, 0⟩ l) from if_neg h]; simp
  · cases hr
theorem call31 (xs : Array Value) (w : World) : (callFunc 31 xs).run Tryz.prog w = .ok (.enter 31 xs) w := by kernel_rfl
end Go.Proofs.YtcgacojnfkklaaaGreatDoor
