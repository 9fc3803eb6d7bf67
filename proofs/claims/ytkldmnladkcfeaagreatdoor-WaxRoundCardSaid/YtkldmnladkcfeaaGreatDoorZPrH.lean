/-
  The keys of a map of ints, sorted. Conditions: none.
-/
import Derived.Test.YtkldmnladkcfeaaGreatDoorZKeys
import Derived.Test.YtkldmnladkcfeaaGreatDoorZShelf
import Derived.Test.YtkldmnladkcfeaaGreatDoorZPrF
import Derived.Maps.Keyed
import Derived.Test.YtkldmnladkcfeaaGreatDoorZAmF
namespace Go.Proofs.YtkldmnladkcfeaaGreatDoor
open Go.RowKit Go.Maps Go.Shelf
set_option linter.unusedSimpArgs false
set_option linter.unusedVariables false
theorem sh1_iK {v : Value} (h : shK v = 1) : ∃ a, v = .int .i64 a := by
  cases v with
  | agg cs => simp only [shK] at h; omega
  | int q a => cases q <;> simp [shK, sh1] at h; exact ⟨a, rfl⟩
  | _ => simp [shK, sh1] at h
theorem keyOk3 : KeyOk Tryz.prog 3 1 where
  law := int_keyed Tryz.underlying3
  key := fun v h1 h2 => by
    obtain ⟨a, rfl⟩ := sh1_iK h1
    exact ⟨_, keyOf_int_mk Tryz.underlying3 h2⟩
theorem keys3 : ∀ (K : TypeId) (sh : Nat), getA [(3, 1)] K = some sh → KeyOk Tryz.prog K sh := fun K sh h => by
  simp only [getA] at h
  split at h
  · rename_i e; simp only [Option.some.injEq] at h; subst h; subst e; exact keyOk3
  · cases h
def keyZ (x : MapEntry) : Int := match x.key with
  | .int _ a => a
  | _ => 0
theorem wfZ {x : Int} (h0 : 0 ≤ x) (h1 : x ≤ 1000000) : (Lit.int .i64 x).wf = true := by
  have e1 : IntKind.i64.min = -9223372036854775808 := by decide
  have e2 : IntKind.i64.max = 9223372036854775807 := by decide
  simp only [Lit.wf, e1, e2, Bool.and_eq_true, decide_eq_true_eq]
  omega
theorem sortsZ (m : Nat) : AnyZI.SortsIn Tryz.prog Tryz.sortedI_ren Fence.wide m :=
  ⟨fun blk off cap ss W hH hblk hsz => callsIn_wide.2 (Tryz.slices_Sort_int blk off cap ss W hH hblk hsz), fun p cap W => callsIn_wide.2 (Tryz.slices_Sort_int_none p cap W)⟩
theorem keysZ (M : Nat) (w : World) : Calls Tryz.prog 90 #[.map (some M)] w fun e w' => e = .returned (.func (.func 105) #[] #[.pointer (some ⟨w.heap.size, 0, none⟩)]) ∧ w' = w.alloc (.cells #[.map (some M)] 135) :=
  callsIn_wide.1 (AnyZI.keys_in Tryz.keysI Fence.wide 5 trivial rfl (some M) w)
def unitR : Value → Option (DataW Unit × List MemPlace) := fun _ => some (.nil, [])
theorem enters105 (xs : Array Value) (w : World) : (callFunc 105 xs).run Tryz.prog w = .ok (.enter 105 xs) w := by kernel_rfl
theorem enters104 (xs : Array Value) (w : World) : (callFunc 104 xs).run Tryz.prog w = .ok (.enter 104 xs) w := by kernel_rfl
theorem call89 (xs : Array Value) (w : World) : (callFunc 89 xs).run Tryz.prog w = .ok (.enter 89 xs) w := by kernel_rfl
theorem call90 (xs : Array Value) (w : World) : (callFunc 90 xs).run Tryz.prog w = .ok (.enter 90 xs) w := by kernel_rfl
theorem sortedZ (M Bm : Nat) (es : List (Value × Value)) (w : World) (hM : MapAt w M (1, es)) (hlen : es.length ≤ 1000000) (hBm : Bm < w.heap.size) (hc : w.cell? ⟨Bm, 0, none⟩ = some (.map (some M))) (T : List Int) (hT : T.Pairwise (· < ·)) (hw : ∀ k ∈ T, 0 ≤ k ∧ k ≤ 1000000) (hmem : ∀ k, k ∈ T ↔ ∃ v, lookM es (.int .i64 k) = some v) :
    Calls Tryz.prog 89 #[.func (.func 105) #[] #[.pointer (some ⟨Bm, 0, none⟩)]] w fun e w' => ∃ v, e = .returned v ∧ w'.ownsRow w.heap.size 3 1 v T.length (T.map (Value.int .i64)) ∧ Below w.heap.size w w' := by
  obtain ⟨l, cl, hb, hs, hn, hl, hcc⟩ := hM
  simp only at hn hl hcc
  have hrd : ∀ x ∈ l.toList, ∃ a, x.key = .int .i64 a ∧ (Lit.int .i64 a).wf = true ∧ Go.WideElems.rd Tryz.prog 3 unitR x = some (.int .i64 a, .nil) := fun x hx => by
    obtain ⟨q1, q2, _⟩ := hl x hx
    obtain ⟨a, ha⟩ := sh1_iK q1
    rw [ha] at q2
    refine ⟨a, ha, q2, ?_⟩
    have := keyOf_int_mk (k := 3) Tryz.underlying3 q2
    simp [Go.WideElems.rd, ha, this, unitR]
  have hown : w.ownsMap Tryz.prog 3 unitR M l.size (.map ((l.toList.map (Go.WideElems.rg Tryz.prog 3 unitR)).foldr DataW.insert [])) :=
    ⟨l, cl, hb, ⟨by unfold maxLen; omega, hs, fun x hx => by obtain ⟨a, _, _, h⟩ := hrd x hx; exact ⟨_, h⟩⟩, Nat.le_refl _, rfl⟩
  have hsz : Maps.size (.map ((l.toList.map (Go.WideElems.rg Tryz.prog 3 unitR)).foldr DataW.insert []) : DataW Unit) = l.size := by rw [Maps.size_eq, length_read]
  have hperm : (intKeys (.map ((l.toList.map (Go.WideElems.rg Tryz.prog 3 unitR)).foldr DataW.insert []) : DataW Unit)).Perm (l.toList.map keyZ) := by
    have h1 := (Go.WideShapes.sorted_perm (l.toList.map (Go.WideElems.rg Tryz.prog 3 unitR))).map (fun p => Go.intOf p.1)
    refine h1.trans ?_
    rw [List.map_map]
    have : l.toList.map ((fun p => Go.intOf p.1) ∘ Go.WideElems.rg Tryz.prog 3 unitR) = l.toList.map keyZ := List.map_congr_left fun x hx => by
      obtain ⟨a, h1, _, h2⟩ := hrd x hx
      simp [Go.WideElems.rg, h2, Go.intOf, keyZ, h1]
    rw [this]
  have hnd : (l.toList.map keyZ).Nodup := by
    have hp := ((Go.MapKept.stamped_iff l cl).1 hs).2.2
    refine List.pairwise_map.2 (hp.imp_of_mem fun {p q} hp' hq' hne e => hne ?_)
    obtain ⟨a, ha, _⟩ := hrd p hp'
    obtain ⟨b, hb, _⟩ := hrd q hq'
    simp only [keyZ, ha, hb] at e
    rw [ha, hb, e]
  have hTn : T.Nodup := hT.imp fun h e => by omega
  have hTp : (l.toList.map keyZ).Perm T := (List.perm_ext_iff_of_nodup hnd hTn).2 fun x => by
    rw [List.mem_map, hmem]
    constructor
    · rintro ⟨e, he, rfl⟩
      obtain ⟨a, ha, _⟩ := hrd e he
      refine ⟨e.val, ?_⟩
      have := (hl e he).2.2
      rw [ha] at this
      simp only [keyZ, ha]
      exact this
    · rintro ⟨v, hv⟩
      have hx : x ∈ T := (hmem x).2 ⟨v, hv⟩
      obtain ⟨h0, h1⟩ := hw x hx
      have hwf : (Lit.int .i64 x).wf = true := wfZ h0 h1
      obtain ⟨e, he, hk⟩ := hcc (.int .i64 x) v hwf hv
      exact ⟨e, he, by simp [keyZ, hk]⟩
  have hfin : ∀ ss : List Int, ss.Perm (l.toList.map keyZ) → ss.mergeSort (fun x y => decide (x ≤ y)) = T := fun ss h => by
    have h1 : (ss.mergeSort fun x y => decide (x ≤ y)).Perm T := (List.mergeSort_perm ss _).trans (h.trans hTp)
    have h2 := List.pairwise_mergeSort (le := fun x y : Int => decide (x ≤ y)) (by intro a b c h1 h2; simp at *; omega) (by intro a b; simp; omega) ss
    refine List.Perm.eq_of_pairwise (le := fun a b : Int => decide (a ≤ b) = true) (fun a b _ _ h1 h2 => ?_) h2 (hT.imp fun h => decide_eq_true (Int.le_of_lt h)) h1
    simp at h1 h2; omega
  have hseq : SeqGives Fence.wide 2 Tryz.prog 105 #[.pointer (some ⟨Bm, 0, none⟩)] encZ (fun ss => ss.Perm (intKeys (.map ((l.toList.map (Go.WideElems.rg Tryz.prog 3 unitR)).foldr DataW.insert []) : DataW Unit))) (Maps.size (.map ((l.toList.map (Go.WideElems.rg Tryz.prog 3 unitR)).foldr DataW.insert []) : DataW Unit)) w :=
    AnyZI.keys_gives (ρ := Tryz.keysI_ren) { Tryz.keysI with } Fence.wide _ trivial rfl (by omega) Bm M l.size _ w hBm hc hown
  have cS := AnyZI.sorted_in Tryz.sortedI Fence.wide 5 trivial trivial trivial trivial rfl (by omega) (sortsZ _) enters104 105 #[.pointer (some ⟨Bm, 0, none⟩)] trivial enters105 _ _ (by rw [hsz]; unfold maxLen; omega) (by rw [hsz]; omega) _ hseq
  change CallsIn _ _ Tryz.prog 89 _ _ _ at cS
  refine callsIn_wide.1 (cS.mono ?_)
  rintro e w' ⟨v, ss, rfl, hS, hrow, _, hB⟩
  refine ⟨v, rfl, ?_, hB⟩
  have h1 := hfin ss (hS.trans hperm)
  have h2 : ss.length = T.length := by rw [← h1]; simp
  rw [h1, h2] at hrow
  exact hrow
end Go.Proofs.YtkldmnladkcfeaaGreatDoor
namespace Go.Proofs.YtkldmnladkcfeaaGreatDoor
open Go.RowKit
set_option linter.unusedSimpArgs false
set_option linter.unusedVariables false
set_option linter.unusedSectionVars false
def pureM (w : World) : Base := ⟨w, fun _ => none, fun _ => none, [], True, []⟩
theorem pureM_no (w : World) (b : Nat) : ¬ (pureM w).writ b := by
  rintro (⟨i, hi⟩ | ⟨t, ht⟩)
  · cases hi
  · cases ht
section
variable {P : Program} {c : Cx} {m0 : Nat → Nat → Prop} {g g' : Gh} {σ σ' : St} {a : Act} {w : World} {e : AEx}
theorem pure_handM {f : Nat} {fn : Func} {cd : Code} (hf : P.funcs[f]? = some fn) (hb : fn.body = some cd) {N : Nat} (hN : fn.ntmps = N) {ds : List D} {d : D} (hl : ds.length ≤ N)
    (h : ∀ (m : Nat → Nat → Prop) (w : World) (a : Act), Inv N m (pureM w) (pureG m) ⟨argT 0 ds, [], [], []⟩ a w → cd.wpIn Fence.wide 0 P (bodyPostM Fence.wide 0 P fn (RetR m w d)) a w) : PureC P f ds d := by
  intro m w vs hm hG hr
  have I := inv_args (P := P) hN hl hm hG hr
  have I' : Inv N m (pureM w) (pureG m) ⟨argT 0 ds, [], [], []⟩ { tmps := vs.toArray ++ Array.replicate (fn.ntmps - vs.toArray.size) undef, defers := [] } w :=
    ⟨KeepsW.refl _ _, I.size, ⟨[], rfl, List.nodup_nil, fun D h => by cases h⟩, I.lt, I.old, fun _ _ h => .inl h, I.tmps, fun i b h => (by cases h), I.boxi, fun t b h => (by cases h), I.toki, I.boxes, fun i b h => (by cases h), fun p hp => (by cases hp), I.maps, I.cells⟩
  exact (callsIn_wide (n := 0)).1 (callsIn_of_wp_marks hf hb trivial (h m w _ I'))
theorem am_codeM (hc : CxOk P c) {W : World} {cd : Code} (hd : drawsB c.diff c.md c.pq cd = true) (I : Inv c.N m0 (pureM W) g σ a w) {Q : Exit → Act → World → Prop} (hQ : codeK c m0 (pureM W) Q (c.code cd σ)) : cd.wpIn Fence.wide 0 P Q a w := by
  cases h : c.code cd σ with
  | none => rw [h] at hQ; exact hQ.elim
  | some r =>
    obtain ⟨e, σ'⟩ := r
    rw [h] at hQ
    exact code_sound hc cd hd Fence.wide 0 (.inl rfl) m0 (pureM W) (.inr ⟨rfl, trivial, rfl⟩) σ e σ' h (fun _ _ => rfl) g a w I Q hQ
theorem post_retM (hc : CxOk P c) {W : World} (I : Inv c.N m0 (pureM W) g σ a w) {fn : Func} {r : List D} {d : D} (hres : aResS c.Γ σ fn.results.toList = some r) (hd : oneOf r = d) : bodyPostM Fence.wide 0 P fn (RetR m0 W d) .ret a w := by
  subst hd
  show LeavesInM Fence.wide 0 P fn a.tmps _ a.defers .returning w
  obtain ⟨Ds, h1, h2, h3⟩ := I.defers
  have h1 : a.defers = Ds.map markD := by rw [h1]; exact List.append_nil _
  have I2 : Inv c.N m0 (pureM W) g σ ⟨a.tmps, Ds.map markD⟩ w := by rw [← h1]; exact I
  rw [h1]
  refine leaves_marks rfl rfl (fun g2 w2 I' => ?_) Ds g w I2
  obtain ⟨us, h1, h2⟩ := aResS_rel hc I' fn.results.toList r hres
  have hx : ExtM (boxT g2) w2 (fun b o => m0 b o ∨ (boxT g2 b o ∧ W.heap.size ≤ b)) w2 := ⟨fun b o h => by
    rcases h with (h | ⟨i, h⟩) | ⟨s, h⟩
    · exact (I'.new b o h).imp id fun h2 => ⟨.inl (.inl h), h2.resolve_right (pureM_no W b)⟩
    · exact .inr ⟨.inl (.inr ⟨i, h⟩), (I'.boxb i b h).1.resolve_right (pureM_no W b)⟩
    · exact .inr ⟨.inr ⟨s, h⟩, (I'.tokb s b h).2.1.resolve_right (pureM_no W b)⟩, fun _ _ _ => rfl⟩
  obtain ⟨v, h3, h4⟩ := ret_rel h1 (RelL.ext hx _ _ h2)
  exact ⟨v, h3, v, (fun b o => boxT g2 b o ∧ W.heap.size ≤ b), rfl, I'.below.below (fun k hk => pureM_no W k hk), fun b o h => ⟨h.2, by
    rcases h.1 with (h | ⟨i, h⟩) | ⟨s, h⟩
    · exact I'.lt b o h
    · exact (I'.boxb i b h).2.1
    · exact (I'.tokb s b h).1⟩, h4⟩
end
end Go.Proofs.YtkldmnladkcfeaaGreatDoor
namespace Go.Proofs.YtkldmnladkcfeaaGreatDoor
open Go.RowKit Go.Maps
set_option linter.unusedSimpArgs false
set_option linter.unusedVariables false
def kp66 (r : Nat) : List (Nat × Option Nat) := match r with
  | 0 => [(0, none), (2, none)]
  | 1 => [(0, none), (2, none), (3, none)]
  | 2 => [(2, none), (3, none), (7, none)]
  | 3 => [(2, none), (3, none), (4, none)]
  | 4 => [(2, none), (3, none)]
  | 5 => [(2, none)]
  | _ => []
def mapE : List Int → List (Value × Value)
  | [] => []
  | k :: t => (.int .i64 k, .int .i64 ((t.count k : Nat) + 1 : Int)) :: mapE t
theorem mapE_look (k : Int) : ∀ t : List Int, lookM (mapE t) (.int .i64 k) = if k ∈ t then some (.int .i64 (t.count k : Nat)) else none
  | [] => rfl
  | a :: t => by
    simp only [mapE, lookM]
    have he : eqK (.int .i64 a) (.int .i64 k) = decide (a = k) := by simp only [eqK, eq1, beq_self_eq_true, decide_true, Bool.true_and]; by_cases e : a = k <;> simp [e]
    rw [he, mapE_look k t]
    by_cases h : a = k
    · subst h; simp
    · have h' : ¬ k = a := fun e => h e.symm
      have hb : (a == k) = false := by simpa using h
      simp [h, h', List.count_cons, hb]
theorem mapE_get (k : Int) (t : List Int) : (lookM (mapE t) (.int .i64 k)).getD (.int .i64 0) = .int .i64 (t.count k : Nat) := by
  rw [mapE_look]
  split
  · rfl
  · rename_i h; rw [List.count_eq_zero_of_not_mem h]; rfl
theorem mapE_len : ∀ t : List Int, (mapE t).length = t.length
  | [] => rfl
  | _ :: t => by simp [mapE, mapE_len t]
theorem shl_lt : ∀ A : Nat, A < 8 → IntKind.i64.wrap (2 ^ min A IntKind.i64.bits) = 2 ^ A := by decide
set_option maxRecDepth 100000 in
theorem or_lt : ∀ A : Nat, A < 8 → ∀ B : Nat, B < 8 → bits BinOp.or IntKind.i64 (2 ^ A) (2 ^ B) = ((2 ^ A ||| 2 ^ B : Nat) : Int) ∧ (2 ^ A ||| 2 ^ B : Nat) < 256 := by decide
theorem cat_len {α : Type} {f : Nat → List α} {c : Nat} : ∀ {n : Nat}, (∀ k, k < n → (f k).length ≤ c) → (cat f n).length ≤ n * c
  | 0, _ => Nat.zero_le _
  | n + 1, h => by
    rw [cat, List.length_append, Nat.succ_mul]
    exact Nat.add_le_add (cat_len fun k hk => h k (by omega)) (h n (by omega))
theorem mixL_len {x : Tbl} {l : List Int} (h : x.kinds.length ≤ 8) : (mixL x l).length ≤ 64 := by
  have h1 : ∀ a, a < x.kinds.length → (mixRow x l a).length ≤ 8 := fun a ha => by
    have := cat_len (f := mixAt x l a) (c := 1) (n := a + 1) fun b _ => by unfold mixAt; split <;> simp
    unfold mixRow; omega
  have := cat_len (f := mixRow x l) (c := 8) (n := x.kinds.length) h1
  unfold mixL; omega
def maskV (m : Mix) : Int := ((2 ^ m.a.toNat ||| 2 ^ m.b.toNat : Nat) : Int)
def g66 : List (Nat × (List D → Option D)) := [(68, s68)]
theorem dg66 : DelOk Tryz.prog (delOf g66) := del_cons del_nil call68 ok68
def md66 (r : Nat) : Nat := if r = 4 then 1008 else 0
theorem cx66 : CxOk Tryz.prog (mkCxE g66 [] 22 kp66 [] (fun _ => []) md66 [(3, 1)] [(91, s91)]) := mkCxE_ok dg66 eff_nil keys3 seq91 22 kp66 [] (fun _ => []) md66
def setsOf (l : List Mix) : List Int := (List.range 256).filterMap fun (k : Nat) => if (l.map maskV).contains (k : Int) then some (k : Int) else none
theorem sets_mem {M : List Mix} (h : ∀ m ∈ M, 0 ≤ maskV m ∧ maskV m < 256) (k : Int) : k ∈ setsOf M ↔ k ∈ M.map maskV := by
  unfold setsOf
  rw [List.mem_filterMap]
  constructor
  · rintro ⟨n, _, hn⟩
    split at hn
    · rename_i hc
      cases hn
      simpa using hc
    · cases hn
  · intro hk
    obtain ⟨m, hm, rfl⟩ := List.mem_map.1 hk
    obtain ⟨h0, h1⟩ := h m hm
    refine ⟨(maskV m).toNat, List.mem_range.2 (by omega), ?_⟩
    have e : ((maskV m).toNat : Int) = maskV m := by omega
    rw [e, if_pos (by simpa using hk)]
theorem sets_bd {M : List Mix} : ∀ k ∈ setsOf M, 0 ≤ k ∧ k ≤ 255 := fun k hk => by
  unfold setsOf at hk
  obtain ⟨n, hn, h⟩ := List.mem_filterMap.1 hk
  have := List.mem_range.1 hn
  split at h
  · cases h; omega
  · cases h
theorem sets_pair (M : List Mix) : (setsOf M).Pairwise (· < ·) := by
  unfold setsOf
  rw [List.pairwise_filterMap]
  refine List.pairwise_lt_range.imp fun {a b} hab x hx y hy => ?_
  split at hx
  · split at hy
    · cases hx; cases hy; omega
    · cases hy
  · cases hx
theorem sets_len (M : List Mix) : (setsOf M).length ≤ 256 := by
  unfold setsOf
  have := List.length_filterMap_le (fun (k : Nat) => if (M.map maskV).contains (k : Int) then some (k : Int) else none) (List.range 256)
  simpa using this
theorem ints_rel {m : Nat → Nat → Prop} {w : World} {base : Nat} {v : Value} {l : List Int} (h : w.ownsRow base 3 1 v l.length (l.map (Value.int .i64))) (hl : l.length ≤ 140737488355328) :
    ∃ m' : Nat → Nat → Prop, (∀ b o, m' b o → base ≤ b ∧ b < w.heap.size) ∧ Rel (fun b o => m b o ∨ m' b o) w (.sl 1 (l.map rInt.enc)) v := by
  obtain ⟨_, h⟩ := h
  rcases h with ⟨rfl, h0⟩ | ⟨g, cap, cur, rfl, hb, hg, hlc, hcm, hcs, hcur⟩
  · obtain rfl : l = [] := List.length_eq_zero_iff.1 h0
    exact ⟨fun _ _ => False, fun _ _ h => h.elim, by simp [Rel]⟩
  · refine ⟨fun b _ => b = g, fun b o h => by subst h; exact ⟨hb, (Array.getElem?_eq_some_iff.1 hg).1⟩, ?_⟩
    simp only [Rel, List.length_map]
    refine ⟨hl, _, cap, rfl, hlc, .inr ⟨g, 0, rfl, RelRows.of fun i r hi => ?_⟩⟩
    rw [List.getElem?_map] at hi
    cases hp : l[i]? with
    | none => rw [hp] at hi; cases hi
    | some z =>
      rw [hp] at hi
      simp only [Option.map_some, Option.some.injEq] at hi
      subst hi
      have hj : i < l.length := (List.getElem?_eq_some_iff.1 hp).1
      refine ⟨rfl, ?_⟩
      simp only [rInt_enc, RelCells, Rel]
      refine ⟨⟨.int .i64 z, .inr trivial, ?_, rfl, rfl⟩, trivial⟩
      have hat : (l.map (Value.int .i64))[i]? = some (.int .i64 z) := by rw [List.getElem?_map, hp]; rfl
      rw [← hcur] at hat
      rw [List.getElem?_take, if_pos (by omega)] at hat
      simp only [World.cell?, hg, Nat.zero_add, Option.isSome_none, Bool.false_eq_true, if_false, Nat.mul_one]
      simpa using hat
def s66 : List D → Option D := sp1 cSmpP (cList rInt) fun x => if okR x.t x.l then some (setsOf (mixL x.t x.l)) else none
set_option maxHeartbeats 4000000 in
theorem ok66 : ∀ ds d, s66 ds = some d → PureC Tryz.prog 66 ds d := ok_sp1 fun x r hr => by
  split at hr
  · rename_i h0
    cases hr
    have f := fine_of (okR_of h0).1
    have hk8 := f.k8
    refine pure_handM Tryz.func66 rfl rfl (Nat.le_of_ble_eq_true rfl) fun m w a I => ?_
    refine wpIn_seq (am_codeM cx66 (by kernel_rfl) I ?_)
    simp [kp66, md66, cSmpP_enc, codeK_some]
    intro g2 a2 w2 I2
    simp only [AEx.out, Exit.then]
    refine wpIn_seq (am_codeM cx66 (by kernel_rfl) I2 ?_)
    simp [kp66, md66, codeK_some]
    intro g3 a3 w3 I3
    simp only [AEx.out, Exit.then]
    refine wpIn_seq (am_codeM cx66 (by kernel_rfl) I3 ?_)
    simp [kp66, md66, cSmpP_enc, g66, s68, cSmpP_dec, cMixF_enc, s91, h0]
    have hbd : ∀ j (hj : j < (mixL x.t x.l).length), _ := fun j hj => mix_bd h0 (List.getElem_mem hj)
    have hva : ∀ j v, (vals (mixL x.t x.l))[j]? = some v → _ := fun j v h => vals_at h
    have hvl : (vals (mixL x.t x.l)).length = (mixL x.t x.l).length := by simp [vals]
    have hml := mixL_len (l := x.l) hk8
    generalize mixL x.t x.l = M at *
    (generalize hLoopQ : Cx.rounds _ _ _ _ _ _ _ _ = rLoopQ; have hEndQ := rounds_then_all hLoopQ (fun j => ⟨[(2, .d (.sl 0 [])), (3, .loc 3 0), (7, .d (.fn 91 [] [.dat 1 [[.dat 4 [[.sl 2 (x.t.props.map rPrp.enc), .sl 2 (x.t.kinds.map rKnd.enc), DI x.t.purity, .sl 1 (x.l.map rInt.enc)]] 0 0]] 0 0]))], [(3, [.mp 5])], [], [(5, (1, mapE ((M.take j).map maskV).reverse))]⟩) rfl ?_; rotate_left; all_goals clear hLoopQ)
    · intro j v hv
      obtain ⟨hj, rfl⟩ := hva j v hv
      obtain ⟨⟨a0, a1⟩, ⟨b0, b1⟩, _⟩ := hbd j hj
      have hnx : ((M.take (j + 1)).map maskV).reverse = maskV M[j] :: ((M.take j).map maskV).reverse := by
        rw [List.take_add_one, List.getElem?_eq_getElem hj, List.map_append, List.reverse_append]; rfl
      rw [hnx]
      have htl : ((M.take j).map maskV).reverse.length ≤ 64 := by simp; omega
      generalize ((M.take j).map maskV).reverse = t at *
      generalize M[j] = m at *
      obtain ⟨A, hA⟩ : ∃ A : Nat, m.a = A := ⟨m.a.toNat, by omega⟩
      obtain ⟨B, hB⟩ : ∃ B : Nat, m.b = B := ⟨m.b.toNat, by omega⟩
      have sA := shl_lt A (by omega)
      have sB := shl_lt B (by omega)
      have hm : maskV m = ((2 ^ A ||| 2 ^ B : Nat) : Int) := by unfold maskV; rw [hA, hB]; rfl
      obtain ⟨o1, o2⟩ := or_lt A (by omega) B (by omega)
      rw [hm]
      generalize (2 ^ A ||| 2 ^ B) = K at *
      have hw : (Lit.int .i64 (K : Int)).wf = true := wfZ (by omega) (by omega)
      have hg := mapE_get (K : Int) t
      have hcl : t.count (K : Int) ≤ t.length := List.count_le_length
      have w1 := wrap_small ((t.count (K : Int) : Nat) + 1 : Int) (by omega) (by omega)
      simp [kp66, md66, hA, hB, sA, sB, o1, hw, hg, w1, mapE]
      done
    rw [hvl] at hEndQ
    rw [hEndQ, List.take_length]
    simp [codeK_some]
    intro g1 a1 w1 I1
    simp only [AEx.out, Exit.then]
    obtain ⟨b3, hb3, hv3⟩ := I1.tmps 3 (.loc 3 0) rfl
    obtain ⟨v19, hl19, M5, hM5, rfl⟩ := snd_load (P := Tryz.prog) (T := 135) (x := .loc 3 0) (y := .mp 5) (boxes := [(3, [.mp 5])]) (g := g1) (w := w1) (toks := []) tys_ok rfl ⟨b3, hb3, hv3⟩ I1.boxes
    have hmap := I1.maps 5 (1, mapE (M.map maskV).reverse) (by simp [getA]) M5 hM5
    have hsz := I1.size
    refine wpIn_seq ?_
    refine wpIn_region_list ?_
    unfold wpListIn
    rw [if_pos (by simp [Region.wanted])]
    refine wp_val (.inl rfl) (v := .map (some M5)) (w' := w1) (by simp only [execOp, Act.eval, Sem.run_bind, hl19, Result.andThen_ok]; rfl) ?_
    unfold wpListIn
    rw [if_pos (by simp [Region.wanted])]
    have e19 : (a1.put (some 19) (.map (some M5))).tmps.getD 19 undef = .map (some M5) := by rw [putAct_get _ _ _ _ (by rw [hsz]; decide), if_pos rfl]
    refine wp_ent (.inl rfl) (f := 90) (args := #[.map (some M5)]) (by simp [execOp, resolve, Deferred.ofValue, invoke, Act.eval, e19, call90]) (keysZ M5 w1) ?_
    rintro e w2 ⟨rfl, rfl⟩
    refine ⟨_, rfl, ?_⟩
    unfold wpListIn
    rw [if_pos (by simp [Region.wanted])]
    have J1 := I1.put (d := some 19) (fun x h => by cases h; decide) (x := .mp 5) (v := .map (some M5)) ⟨M5, hM5, rfl⟩
    have J2 := (J1.later ((Below.refl _ w1).alloc (Nat.le_refl _) (.cells #[.map (some M5)] 135))).put (d := some 20) (fun x h => by cases h; decide) (x := .d .top) (v := .func (.func 105) #[] #[.pointer (some ⟨w1.heap.size, 0, none⟩)]) (by simp [RelX, Rel])
    have hsJ := J2.size
    have e20 : (((a1.put (some 19) (.map (some M5))).put (some 20) (.func (.func 105) #[] #[.pointer (some ⟨w1.heap.size, 0, none⟩)])).tmps).getD 20 undef = .func (.func 105) #[] #[.pointer (some ⟨w1.heap.size, 0, none⟩)] := by rw [putAct_get _ _ _ _ (by rw [putAct_size, hsz]; decide), if_pos rfl]
    generalize (a1.put (some 19) (.map (some M5))).put (some 20) (.func (.func 105) #[] #[.pointer (some ⟨w1.heap.size, 0, none⟩)]) = a4 at *
    have hMlt : M5 < w1.heap.size := by
      obtain ⟨l, cl, hb, _⟩ := hmap
      exact (Array.getElem?_eq_some_iff.1 hb).1
    have hmask : ∀ m ∈ M, 0 ≤ maskV m ∧ maskV m < 256 := fun m hm => by
      obtain ⟨j, hj, rfl⟩ := List.getElem_of_mem hm
      obtain ⟨⟨a0, a1⟩, ⟨b0, b1⟩, _⟩ := hbd j hj
      have := (or_lt M[j].a.toNat (by omega) M[j].b.toNat (by omega)).2
      unfold maskV; omega
    have hcall := sortedZ M5 w1.heap.size (mapE (M.map maskV).reverse) (w1.alloc (.cells #[.map (some M5)] 135)) (hmap.keep (Below.heap_alloc _ _ M5 hMlt)) (by rw [mapE_len]; simp; omega) (by simp) (by simp) (setsOf M) (sets_pair M) (fun k hk => by have := sets_bd k hk; omega) (fun k => by
      rw [sets_mem hmask, mapE_look]
      simp only [List.mem_reverse]
      split
      · rename_i h; exact ⟨fun _ => ⟨_, rfl⟩, fun _ => h⟩
      · rename_i h; exact ⟨fun h' => absurd h' h, fun ⟨v, hv⟩ => by cases hv⟩)
    refine wp_ent (.inl rfl) (f := 89) (args := #[.func (.func 105) #[] #[.pointer (some ⟨w1.heap.size, 0, none⟩)]]) (by simp [execOp, resolve, Deferred.ofValue, invoke, Act.eval, e20, call89]) hcall ?_
    rintro e w5 ⟨v, rfl, hrow, hB⟩
    refine ⟨_, rfl, ?_⟩
    unfold wpListIn
    rw [if_pos (by simp [Region.wanted])]
    obtain ⟨m', hm1, hm2⟩ := ints_rel (m := g1.imm) hrow (by have := sets_len M; omega)
    have J3 := (J2.grow hB m' hm1).1.put (d := some 21) (fun x h => by cases h; decide) (x := .d (.sl 1 ((setsOf M).map rInt.enc))) (v := v) hm2
    have J4 := J3.put (d := some 2) (fun x h => by cases h; decide) (x := .d (.sl 1 ((setsOf M).map rInt.enc))) (v := v) hm2
    have e21 : (a4.put (some 21) v).tmps.getD 21 undef = v := by rw [putAct_get _ _ _ _ (by rw [hsJ]; decide), if_pos rfl]
    refine wp_val (.inl rfl) (v := v) (w' := w5) (by simp [execOp, Act.eval, e21]) ?_
    unfold wpListIn
    simp only [Exit.then]
    refine wpIn_ret ?_
    refine post_retM cx66 J4 (r := [.sl 1 ((setsOf M).map rInt.enc)]) ?_ rfl
    rw [Tryz.results66]; simp
  · cases hr
theorem call66 (xs : Array Value) (w : World) : (callFunc 66 xs).run Tryz.prog w = .ok (.enter 66 xs) w := by kernel_rfl
end Go.Proofs.YtkldmnladkcfeaaGreatDoor
