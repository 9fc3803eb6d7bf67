/-
  Functions that yield: what they hand to a loop, as the plain machine runs them. For any program. No program here.
-/
import Derived.Test.YtkldmnladkcfeaaGreatDoorZAmE
import Derived.Recover
namespace Go.Proofs.YtkldmnladkcfeaaGreatDoor
open Go.RowKit
set_option linter.unusedSimpArgs false
set_option linter.unusedVariables false
set_option linter.unusedSectionVars false
structure SY where
  σ : St
  ys : List (List Value)
  stop : Bool
def X.known : X → Bool
  | .d (.v _) => true
  | .d (.datA _ _ _ _ _ _) => true
  | _ => false
def keepY : List (Nat × X) → List (Nat × X)
  | [] => []
  | (t, x) :: r => if x.known then (t, x) :: keepY r else (t, .d .top) :: keepY r
def yielded1 (ln : Nat) (σ : St) (o : Oper) : Option (List X) :=
  match o.op with
  | .call cc => (match cc.callee with
    | .value f => (match σ.ev f with
      | .d (.v (.func (.yield l) first caps)) => if l = ln ∧ first.isEmpty ∧ caps.isEmpty then some (cc.args.toList.map σ.ev) else none
      | _ => none)
    | _ => none)
  | _ => none
def valX : X → Option Value
  | .d (.v v) => some v
  | .d (.agg cs) => (match intsOf cs with
    | some vs => some (.agg vs.toArray)
    | none => none)
  | _ => none
def valsX : List X → Option (List Value)
  | [] => some []
  | x :: t => (match valX x, valsX t with
    | some v, some vs => some (v :: vs)
    | _, _ => none)
def backY (σ : St) (dst : Option Nat) (b : Bool) : St := { tmps := putT (keepY σ.tmps) dst (.d (.v (.bool b))), boxes := [], toks := [], maps := [] }
abbrev Adr := List (Nat × Nat × Nat × List (List D))
def adrIn (adr : Adr) : List (Nat × X) → Prop
  | [] => True
  | (_, .d (.datA b o k rows _ _)) :: r => (b, o, k, rows) ∈ adr ∧ adrIn adr r
  | _ :: r => adrIn adr r
theorem adrIn_at {adr : Adr} : ∀ {t : List (Nat × X)} {u b o k i off : Nat} {rows : List (List D)}, adrIn adr t → getA t u = some (.d (.datA b o k rows i off)) → (b, o, k, rows) ∈ adr
  | [], u, b, o, k, i, off, rows, _, h => by cases h
  | (v, x) :: r, u, b, o, k, i, off, rows, ha, h => by
    simp only [getA] at h
    split at h
    · simp only [Option.some.injEq] at h; subst h; exact ha.1
    · unfold adrIn at ha
      split at ha
      · rename_i heq; cases heq
      · rename_i heq; cases heq; exact adrIn_at ha.2 h
      · rename_i heq; cases heq; exact adrIn_at ha h
def Cx.opsY (c : Cx) (adr : Adr) (ln : Nat) (l : List (List Value)) (ops : List Oper) : Nat → List Oper → (SY → Prop) → SY → Prop
  | _, [], Post, s => Post s
  | i, o :: t, Post, s => match aWanted ops s.σ o with
    | some true => (match yielded1 ln s.σ o with
      | some xs => (match valsX xs with
        | some vs => s.stop = false ∧ (s.ys ++ [vs]) <+: l ∧ dstB c.N o.dst = true ∧ adrIn adr s.σ.tmps ∧ c.opsY adr ln l ops (i + 1) t Post ⟨backY s.σ o.dst true, s.ys ++ [vs], false⟩ ∧ c.opsY adr ln l ops (i + 1) t Post ⟨backY s.σ o.dst false, s.ys ++ [vs], true⟩
        | none => False)
      | none => (match c.stepE ops i o s.σ with
        | some σ' => c.opsY adr ln l ops (i + 1) t Post { s with σ := σ' }
        | none => False))
    | _ => (match c.stepE ops i o s.σ with
        | some σ' => c.opsY adr ln l ops (i + 1) t Post { s with σ := σ' }
        | none => False)
def Cx.codeY (c : Cx) (adr : Adr) (ln : Nat) (l : List (List Value)) : Code → (AEx → SY → Prop) → SY → Prop
  | .skip, Post, s => Post .normal s
  | .label _, Post, s => Post .normal s
  | .region id ops true, Post, s => (match c.regionD id ops.toList s.σ with
    | some σ' => Post .normal { s with σ := σ' }
    | none => False)
  | .region id ops false, Post, s => if startB (allocs ops.toList) s.σ then c.opsY adr ln l ops.toList 0 ops.toList (fun s' => Post .normal { s' with σ := c.close id s'.σ }) s else False
  | .seq a b, Post, s => c.codeY adr ln l a (fun e s' => match e with | .normal => c.codeY adr ln l b Post s' | e => Post e s') s
  | .cond x a b, Post, s => (match s.σ.ev x with
    | .d (.v (.bool t)) => (match t with
      | true => c.codeY adr ln l a Post s
      | false => c.codeY adr ln l b Post s)
    | _ => False)
  | .block id a, Post, s => c.codeY adr ln l a (fun e s' => match e with | .exit j => if j = id then Post .normal s' else Post (.exit j) s' | e => Post e s') s
  | .loop a, Post, s => ∃ (I : Nat → SY → Prop), (∃ n, I n s) ∧ ∀ n s', I n s' → c.codeY adr ln l a (fun e s'' => match e with | .normal => ∃ m, m < n ∧ I m s'' | e => Post e s'') s'
  | .exit id, Post, s => Post (.exit id) s
  | .scope a, Post, s => c.codeY adr ln l a Post s
  | .ret, Post, s => Post .ret s
  | _, _, _ => False
def baseW (w : World) : Base := ⟨w, fun _ => none, fun _ => none, [], False, []⟩
def ghW (m : Nat → Nat → Prop) : Gh := { imm := m, box := fun _ => none, tok := fun _ => none, used := fun _ => False }
theorem noWrit (w : World) (b : Nat) : ¬ (baseW w).writ b := by
  rintro (⟨i, hi⟩ | ⟨t, ht⟩)
  · cases hi
  · cases ht
theorem keepY_at : ∀ {t : List (Nat × X)} {u : Nat} {x : X}, getA (keepY t) u = some x → x = .d .top ∨ (x.known = true ∧ getA t u = some x)
  | [], u, x, h => by cases h
  | (i, y) :: r, u, x, h => by
    simp only [keepY] at h
    split at h
    · rename_i hk
      simp only [getA] at h ⊢
      split at h
      · rename_i e
        simp only [Option.some.injEq] at h; subst h
        exact .inr ⟨hk, by rw [if_pos e]⟩
      · rename_i e
        rw [if_neg e]
        exact keepY_at h
    · simp only [getA] at h ⊢
      split at h
      · simp only [Option.some.injEq] at h; exact .inl h.symm
      · rename_i e; rw [if_neg e]; exact keepY_at h
theorem valX_rel {g : Gh} {w : World} {base : Nat} {toks : List Nat} {x : X} {u v : Value} (h : valX x = some v) (r : RelX g w base toks x u) : u = v := by
  unfold valX at h
  split at h
  · simp only [Option.some.injEq] at h; subst h
    simpa [RelX, Rel] using r
  · rename_i cs
    split at h
    · rename_i vs hvs
      simp only [Option.some.injEq] at h; subst h
      simp only [RelX, Rel] at r
      obtain ⟨us, h1, _, h3⟩ := r
      rw [h1, intsOf_rel hvs h3]
    · cases h
  · cases h
theorem valsX_rel {g : Gh} {w : World} {base : Nat} {toks : List Nat} : ∀ {xs : List X} {vs us : List Value}, valsX xs = some vs → us.length = xs.length → (∀ (j : Nat) (x : X) (v : Value), xs[j]? = some x → us[j]? = some v → RelX g w base toks x v) → us = vs
  | [], vs, us, h, hl, _ => by
    simp only [valsX, Option.some.injEq] at h; subst h
    exact List.length_eq_zero_iff.1 hl
  | x :: t, vs, us, h, hl, hr => by
    simp only [valsX] at h
    split at h
    · rename_i v r h1 h2
      simp only [Option.some.injEq] at h; subst h
      cases us with
      | nil => simp at hl
      | cons u ut =>
        have e1 := valX_rel h1 (hr 0 x u rfl rfl)
        have e2 := valsX_rel h2 (us := ut) (by simpa using hl) fun j y z q1 q2 => hr (j + 1) y z (by simpa using q1) (by simpa using q2)
        rw [e1, e2]
    · cases h
structure YK (P : Program) (n : Nat) (ln : Nat) (l : List (List Value)) (m : Nat → Nat → Prop) (J : List (List Value) → World → Prop) (Jx : World → Prop) : Prop where
  later : ∀ pre W W', J pre W → Below W.heap.size W W' → J pre W'
  laterx : ∀ W W', Jx W → Below W.heap.size W W' → Jx W'
  round : ∀ pre x W, J pre W → (pre ++ [x]) <+: l → YieldAt Fence.wide (n - 1) P ln x.toArray W fun e W' => ((e = .returned (.bool true) ∧ J (pre ++ [x]) W') ∨ (e = .returned (.bool false) ∧ Jx W')) ∧ W.heap.size ≤ W'.heap.size ∧ ∀ b o, m b o → W'.cell? ⟨b, o, none⟩ = W.cell? ⟨b, o, none⟩
structure InvY (c : Cx) (m : Nat → Nat → Prop) (J : List (List Value) → World → Prop) (Jx : World → Prop) (ws : World) (W : World) (g : Gh) (s : SY) (a : Act) (w : World) : Prop where
  inv : Inv c.N m (baseW W) g s.σ a w
  go : if s.stop = true then Jx W else J s.ys W
  size : ws.heap.size ≤ W.heap.size
  cell : ∀ b o, m b o → W.cell? ⟨b, o, none⟩ = ws.cell? ⟨b, o, none⟩
section
variable {P : Program} {c : Cx} {adr : Adr} {m : Nat → Nat → Prop} {ln : Nat} {l : List (List Value)} {J : List (List Value) → World → Prop} {Jx : World → Prop} {ws W w : World} {n : Nat} {g : Gh} {s : SY} {a : Act}
theorem InvY.defers (I : InvY c m J Jx ws W g s a w) : a.defers = [] := by
  obtain ⟨Ds, h1, _, h3⟩ := I.inv.defers
  cases Ds with
  | nil => exact h1
  | cons D t => exact ((h3 D (by simp)).1.2).elim
theorem InvY.below (I : InvY c m J Jx ws W g s a w) : Below W.heap.size W w := I.inv.below.below fun k hk => noWrit W k hk
theorem InvY.now (I : InvY c m J Jx ws W g s a w) (K : YK P n ln l m J Jx) : if s.stop = true then Jx w else J s.ys w := by
  have h := I.go
  split
  · rename_i hs; rw [if_pos hs] at h; exact K.laterx _ _ h I.below
  · rename_i hs; rw [if_neg hs] at h; exact K.later _ _ _ h I.below
theorem yield_args {σ : St} {o : Oper} {xs : List X} (h : yielded1 ln σ o = some xs) (I : Inv c.N m (baseW W) g σ a w) : ∃ f args tys, o.op = .call ⟨.value f, args, tys⟩ ∧ a.eval f = .func (.yield ln) #[] #[] ∧ xs = args.toList.map σ.ev := by
  unfold yielded1 at h
  split at h
  · rename_i cc hop
    split at h
    · rename_i f hcal
      split at h
      · rename_i l' first caps hf
        split at h
        · rename_i hcond
          obtain ⟨rfl, h1, h2⟩ := hcond
          simp only [Array.isEmpty_iff] at h1 h2
          subst h1; subst h2
          simp only [Option.some.injEq] at h
          have hr := ev_rel I f
          rw [hf] at hr
          simp only [RelX, Rel] at hr
          obtain ⟨cal, args, tys⟩ := cc
          simp only at hcal h
          subst hcal
          exact ⟨f, args, tys, hop, hr, h.symm⟩
        · cases h
      · cases h
    · cases h
  · cases h
theorem opsY_sound (hc : CxOk P c) (K : YK P n ln l m J Jx) (hm : ∀ b o, m b o → b < ws.heap.size) (hadr : ∀ p ∈ adr, RelRows m ws p.2.2.2 p.1 p.2.1 p.2.2.1) (ops : Array Oper) {Q : Exit → Act → World → Prop} {Post : SY → Prop} (hQ : ∀ s' W' g' a' w', Post s' → InvY c m J Jx ws W' g' s' a' w' → Q .normal a' w') : ∀ (rest : List Oper) (i : Nat) (s : SY) (W : World) (g : Gh) (a : Act) (w : World), c.opsY adr ln l ops.toList i rest Post s → InvY c m J Jx ws W g s a w → (allocs rest).Nodup → (∀ d ∈ allocs rest, g.box d = none ∧ getA s.σ.maps d = none) → (∀ j, i ≤ j → ¬ g.used (tokAt j)) →
    wpListIn Fence.wide n P ops Q rest a w
  | [], i, s, W, g, a, w, h, I, _, _, _ => hQ s W g a w h I
  | o :: t, i, s, W, g, a, w, h, I, hnd, hal, hus => by
    have hndt : (allocs t).Nodup := by
      rw [allocs_cons] at hnd
      exact (List.nodup_append.1 hnd).2.1
    have hstep : (match c.stepE ops.toList i o s.σ with
        | some σ' => c.opsY adr ln l ops.toList (i + 1) t Post { s with σ := σ' }
        | none => False) → wpListIn Fence.wide n P ops Q (o :: t) a w := by
      intro h
      split at h
      · rename_i σ' hs
        refine stepE_sound (.inl rfl) hc ops hs I.inv (fun d hd => hal d (by rw [allocs_cons, hd]; simp)) (hus i (Nat.le_refl _)) fun g' a' w' I' hb hu => ?_
        refine opsY_sound hc K hm hadr ops hQ t (i + 1) _ W g' a' w' h ⟨I', I.go, I.size, I.cell⟩ hndt (fun d hd => hb d (hal d (by rw [allocs_cons]; simp [hd])) fun e => ?_) (fun j hj hu' => ?_)
        · rw [allocs_cons, e] at hnd
          simp only [List.cons_append, List.nil_append, List.nodup_cons] at hnd
          exact hnd.1 hd
        · rcases hu _ hu' with h1 | h1
          · exact hus j (by omega) h1
          · unfold tokAt at h1; omega
      · exact h.elim
    unfold Cx.opsY at h
    split at h
    · rename_i hw
      split at h
      · rename_i xs hx
        split at h
        · rename_i vs hv
          obtain ⟨h1, h2, h3, h4, h5, h6⟩ := h
          have hw' := wanted_rel I.inv ops o hw
          unfold wpListIn
          rw [if_pos hw']
          obtain ⟨f, args, tys, hop, hfe, hxs⟩ := yield_args hx I.inv
          have hvs : args.toList.map a.eval = vs := valsX_rel (base := W.heap.size) (toks := s.σ.toks) hv (by rw [hxs]; simp) fun j x v q1 q2 => by
            rw [hxs, List.getElem?_map] at q1
            rw [List.getElem?_map] at q2
            cases hj : args.toList[j]? with
            | none => rw [hj] at q1; cases q1
            | some y => rw [hj] at q1 q2; simp at q1 q2; subst q1; subst q2; exact ev_rel I.inv y
          have hnow := I.now K
          rw [h1] at hnow
          simp only [Bool.false_eq_true, if_false] at hnow
          obtain ⟨fn, tmps, assign, body, hy, hround⟩ := K.round s.ys vs w hnow h2
          have hargs : args.map a.eval = vs.toArray := by rw [← hvs, ← Array.toList_map, Array.toArray_toList]
          have hrun : (o.semAt Fence.wide.round a.eval).run P w = .ok (.round ln fn tmps assign body) w := by
            have hnd : ∀ c, o.op ≠ .defer c := by rw [hop]; intro c h; cases h
            rw [Oper.semAt_eq _ _ _ hnd]
            obtain ⟨dst, op, ty, pos, after, guard⟩ := o
            simp only at hop
            subst hop
            simp [execOp, resolve, hfe, Deferred.ofValue, invoke, hargs, hy]
          have hd : dstOk c.N o.dst := by
            rintro x hx'
            rw [hx'] at h3
            simpa [dstB] using h3
          refine ⟨fun _ _ => trivial, ?_⟩
          rw [hrun]
          refine ⟨fun hd => absurd hd (by simp [Fence.wide]), hround.mono ?_⟩
          rintro e W' ⟨he, hsz, hcl⟩
          have hwW : W.heap.size ≤ w.heap.size := I.below.size
          have hcells : ∀ b o, m b o → W'.cell? ⟨b, o, none⟩ = ws.cell? ⟨b, o, none⟩ := fun b o hbo => ((hcl b o hbo).trans (I.inv.cells.1 b o hbo)).trans (I.cell b o hbo)
          have hsz' : ws.heap.size ≤ W'.heap.size := Nat.le_trans I.size (Nat.le_trans hwW hsz)
          have hlt : ∀ b o, m b o → b < W'.heap.size := fun b o hbo => Nat.lt_of_lt_of_le (hm b o hbo) hsz'
          have hback : ∀ b : Bool, Inv c.N m (baseW W') (ghW m) (backY s.σ o.dst b) (a.put o.dst (.bool b)) W' := by
            intro b
            have I0 : Inv c.N m (baseW W') (ghW m) ⟨keepY s.σ.tmps, [], [], []⟩ a W' := by
              refine ⟨KeepsW.refl _ _, I.inv.size, ⟨[], I.defers, List.nodup_nil, fun D h => by cases h⟩, hlt, fun _ _ h => h, fun _ _ h => .inl h, fun t x hx => ?_, fun i b h => (by cases h), fun i j b h => (by cases h), fun t b h => (by cases h), fun s t b h => (by cases h), fun b cs h => (by cases h), fun i b h => (by cases h), fun p hp => (by cases hp), fun i mc h => (by cases h), fun _ _ _ => rfl, I.inv.cells.2.ext ⟨fun _ _ h => h, fun b o hbo => (hcl b o hbo).trans (I.inv.cells.1 b o hbo)⟩⟩
              rcases keepY_at hx with rfl | ⟨k1, k2⟩
              · simp [RelX, Rel]
              · have hr := I.inv.tmps t x k2
                unfold X.known at k1
                split at k1
                · simpa [RelX, Rel] using hr
                · rename_i b o k rows i off
                  simp only [RelX, Rel] at hr ⊢
                  obtain ⟨r1, r2, _⟩ := hr
                  have hmem := adrIn_at h4 k2
                  exact ⟨r1, r2, RelRows.ext (m := m) (w := ws) ⟨fun _ _ h => h, hcells⟩ rows b o k (hadr _ hmem)⟩
                · cases k1
            exact I0.put hd (x := .d (.v (.bool b))) (by simp [RelX, Rel])
          rcases he with ⟨rfl, hj⟩ | ⟨rfl, hj⟩
          · exact opsY_sound hc K hm hadr ops hQ t (i + 1) _ W' (ghW m) _ W' h5 ⟨hback true, by simpa using hj, hsz', hcells⟩ hndt (fun d _ => ⟨rfl, rfl⟩) (fun j _ hu => hu)
          · exact opsY_sound hc K hm hadr ops hQ t (i + 1) _ W' (ghW m) _ W' h6 ⟨hback false, by simpa using hj, hsz', hcells⟩ hndt (fun d _ => ⟨rfl, rfl⟩) (fun j _ hu => hu)
        · exact h.elim
      · exact hstep h
    · exact hstep h
theorem codeY_sound (hc : CxOk P c) (K : YK P n ln l m J Jx) (hm : ∀ b o, m b o → b < ws.heap.size) (hadr : ∀ p ∈ adr, RelRows m ws p.2.2.2 p.1 p.2.1 p.2.2.1) : ∀ (cd : Code), drawsB c.diff c.md c.pq cd = true → ∀ (Post : AEx → SY → Prop) (s : SY) (W : World) (g : Gh) (a : Act) (w : World), c.codeY adr ln l cd Post s → InvY c m J Jx ws W g s a w →
    ∀ Q : Exit → Act → World → Prop, (∀ e s' W' g' a' w', Post e s' → InvY c m J Jx ws W' g' s' a' w' → Q e.out a' w') → cd.wpIn Fence.wide n P Q a w := by
  intro cd
  induction cd with
  | skip => intro _ Post s W g a w h I Q hQ; exact wpIn_skip (hQ .normal s W g a w h I)
  | label l => intro _ Post s W g a w h I Q hQ; exact wpIn_label (hQ .normal s W g a w h I)
  | region id ops draw =>
    intro hd Post s W g a w h I Q hQ
    cases draw with
    | true =>
      simp only [Cx.codeY] at h
      split at h
      · rename_i σ' hr
        exact regionD_sound (.inl rfl) hc hr (fun _ _ => rfl) hd I.inv fun g' a' w' I' => hQ .normal _ W g' a' w' h ⟨I', I.go, I.size, I.cell⟩
      · exact h.elim
    | false =>
      simp only [Cx.codeY] at h
      split at h
      · rename_i hst
        obtain ⟨hnd, hpl⟩ := start_plain hst
        obtain ⟨I1, hal1, hus⟩ := I.inv.start (al := allocs ops.toList) (fun _ _ => rfl) hst hpl
        refine wpIn_region_list (opsY_sound hc K hm hadr ops (fun s' W' g' a' w' hp I' => ?_) ops.toList 0 s W _ a w h ⟨I1, I.go, I.size, I.cell⟩ (nodupB_iff _ hnd) hal1 (fun j _ => hus j))
        obtain ⟨g2, I2⟩ := I'.inv.close id
        exact hQ .normal _ W' g2 a' w' hp ⟨I2, I'.go, I'.size, I'.cell⟩
      · exact h.elim
  | seq x y ihx ihy =>
    intro hd Post s W g a w h I Q hQ
    simp only [drawsB, Bool.and_eq_true] at hd
    simp only [Cx.codeY] at h
    refine wpIn_seq (ihx hd.1 _ s W g a w h I _ fun e s' W' g' a' w' hp I' => ?_)
    cases e with
    | normal => exact ihy hd.2 Post s' W' g' a' w' hp I' Q hQ
    | exit i => exact hQ (.exit i) s' W' g' a' w' hp I'
    | ret => exact hQ .ret s' W' g' a' w' hp I'
    | pan v => exact hQ (.pan v) s' W' g' a' w' hp I'
  | cond x y z ihy ihz =>
    intro hd Post s W g a w h I Q hQ
    simp only [drawsB, Bool.and_eq_true] at hd
    simp only [Cx.codeY] at h
    split at h
    · rename_i t hx
      have hr := ev_rel I.inv x
      rw [hx] at hr
      simp only [RelX, Rel] at hr
      refine wpIn_cond hr ?_
      cases t with
      | true => exact ihy hd.1 Post s W g a w h I Q hQ
      | false => exact ihz hd.2 Post s W g a w h I Q hQ
    · exact h.elim
  | block id x ih =>
    intro hd Post s W g a w h I Q hQ
    simp only [drawsB] at hd
    simp only [Cx.codeY] at h
    refine wpIn_block (ih hd _ s W g a w h I _ fun e s' W' g' a' w' hp I' => ?_)
    cases e with
    | normal => exact hQ .normal s' W' g' a' w' hp I'
    | ret => exact hQ .ret s' W' g' a' w' hp I'
    | pan v => exact hQ (.pan v) s' W' g' a' w' hp I'
    | exit j =>
      simp only at hp
      by_cases hj : j = id
      · rw [if_pos hj] at hp
        simp only [AEx.out, Exit.inBlock, hj, if_true]
        exact hQ .normal s' W' g' a' w' hp I'
      · rw [if_neg hj] at hp
        simp only [AEx.out, Exit.inBlock, hj, if_false]
        exact hQ (.exit j) s' W' g' a' w' hp I'
  | loop x ih =>
    intro hd Post s W g a w h I Q hQ
    simp only [drawsB] at hd
    simp only [Cx.codeY] at h
    obtain ⟨In, ⟨k, hk⟩, hstep⟩ := h
    refine wpIn_loop_rounds (k + 1) ?_
    revert s W g a w
    induction k using Nat.strongRecOn with
    | ind k ihk =>
      intro s W g a w I hk
      rw [roundsIn_succ]
      refine ih hd _ s W g a w (hstep k s hk) I _ fun e s' W' g' a' w' hp I' => ?_
      cases e with
      | normal =>
        obtain ⟨j, hj, hin⟩ := hp
        have := ihk j hj s' W' g' a' w' I' hin
        have mono : ∀ (r1 r2 : Nat), r1 ≤ r2 → ∀ a w, Code.roundsIn Fence.wide n P x Q r1 a w → Code.roundsIn Fence.wide n P x Q r2 a w := by
          intro r1
          induction r1 with
          | zero => intro r2 _ a w h; exact h.elim
          | succ r1 ihr =>
            intro r2 hle a w h
            obtain ⟨r3, rfl⟩ : ∃ r3, r2 = r3 + 1 := ⟨r2 - 1, by omega⟩
            rw [roundsIn_succ] at h ⊢
            refine wpIn_mono h fun e a w hh => ?_
            cases e with
            | normal => exact ihr r3 (by omega) a w hh
            | _ => exact hh
        exact mono (j + 1) k (by omega) a' w' this
      | exit i => exact hQ (.exit i) s' W' g' a' w' hp I'
      | ret => exact hQ .ret s' W' g' a' w' hp I'
      | pan v => exact hQ (.pan v) s' W' g' a' w' hp I'
  | rangeFunc f p x y ihx ihy => intro _ Post s W g a w h; exact h.elim
  | exit i => intro _ Post s W g a w h I Q hQ; exact wpIn_exit (hQ (.exit i) s W g a w h I)
  | scope x ih =>
    intro hd Post s W g a w h I Q hQ
    simp only [drawsB] at hd
    simp only [Cx.codeY] at h
    exact wpIn_scope_plain (ih hd Post s W g a w h I _ fun e s' W' g' a' w' hp I' => ⟨out_noGoto e, hQ e s' W' g' a' w' hp I'⟩)
  | goto l => intro _ Post s W g a w h; exact h.elim
  | ret => intro _ Post s W g a w h I Q hQ; exact wpIn_ret (hQ .ret s W g a w h I)
  | refuse t => intro _ Post s W g a w h; exact h.elim
def exA : List D → List (Nat × Nat) → List D
  | .dat k rows i off :: t, (b, o) :: r => .datA b o k rows i off :: exA t r
  | d :: t, _ :: r => d :: exA t r
  | l, [] => l
  | [], _ => []
def adrOf : List D → List (Nat × Nat) → Adr
  | .dat k rows _ _ :: t, (b, o) :: r => (b, o, k, rows) :: adrOf t r
  | _ :: t, _ :: r => adrOf t r
  | _, _ => []
theorem exA_rel : ∀ (ds : List D) (vs : List Value), RelL m w ds vs → ∃ ad : List (Nat × Nat), ad.length = ds.length ∧ RelL m w (exA ds ad) vs ∧ ∀ p ∈ adrOf ds ad, RelRows m w p.2.2.2 p.1 p.2.1 p.2.2.1
  | [], vs, h => ⟨[], rfl, h, fun p hp => by cases hp⟩
  | d :: t, vs, h => by
    simp only [RelL] at h
    obtain ⟨v, vt, rfl, h1, h2⟩ := h
    obtain ⟨ad, a1, a2, a3⟩ := exA_rel t vt h2
    cases d with
    | dat k rows i off =>
      simp only [Rel] at h1
      obtain ⟨q1, b, o, q2, q3⟩ := h1
      refine ⟨(b, o) :: ad, by simp [a1], ?_, fun p hp => ?_⟩
      · simp only [exA, RelL]
        exact ⟨v, vt, rfl, by simp only [Rel]; exact ⟨q1, q2, q3⟩, a2⟩
      · simp only [adrOf, List.mem_cons] at hp
        rcases hp with rfl | hp
        · exact q3
        · exact a3 p hp
    | _ =>
      refine ⟨(0, 0) :: ad, by simp [a1], ?_, fun p hp => a3 p (by simpa only [adrOf] using hp)⟩
      simp only [exA, RelL]
      exact ⟨v, vt, rfl, h1, a2⟩
theorem seq_of_code (hc : CxOk P c) {f : Nat} {fn : Func} {cd : Code} (hf : P.funcs[f]? = some fn) (hb : fn.body = some cd) (hN : fn.ntmps = c.N) (hres : fn.results.toList = []) {caps : List D} (hl : caps.length < c.N) (hd : drawsB c.diff c.md c.pq cd = true)
    (h : ∀ (ln : Nat) (ad : List (Nat × Nat)), ad.length = caps.length → c.codeY (adrOf caps ad) ln l cd (fun e s => (∀ i, e ≠ .exit i) ∧ (∀ v, e ≠ .pan v) ∧ (s.stop = true ∨ s.ys = l)) ⟨⟨(0, .d (.v (.func (.yield ln) #[] #[]))) :: argT 1 (exA caps ad), [], [], []⟩, [], false⟩) : SeqC P f caps l := by
  intro n m w lb hm hG hr ln J Jx hJ hJx hround hJ0
  obtain ⟨ad, a1, a2, a3⟩ := exA_rel caps lb hr
  have hlb := hr.length
  have K : YK P n ln l m J Jx := ⟨hJ, hJx, hround⟩
  have hargs : (#[.func (.yield ln) #[] #[]] ++ lb.toArray : Array Value) = ((.func (.yield ln) #[] #[] :: lb : List Value)).toArray := by simp
  rw [hargs]
  have hrel : RelL m w (.v (.func (.yield ln) #[] #[]) :: exA caps ad) (.func (.yield ln) #[] #[] :: lb) := by
    simp only [RelL]
    exact ⟨_, _, rfl, by simp [Rel], a2⟩
  refine callsIn_of_wp hf hb trivial ?_
  have hlen : (exA caps ad).length = caps.length := by have := a2.length; omega
  have I0 : InvY c m J Jx w w (ghW m) ⟨⟨(0, .d (.v (.func (.yield ln) #[] #[]))) :: argT 1 (exA caps ad), [], [], []⟩, [], false⟩ { tmps := (.func (.yield ln) #[] #[] :: lb : List Value).toArray ++ Array.replicate (fn.ntmps - (.func (.yield ln) #[] #[] :: lb : List Value).toArray.size) undef, defers := [] } w := by
    refine ⟨⟨KeepsW.refl _ _, by simp; omega, ⟨[], rfl, List.nodup_nil, fun D h => by cases h⟩, hm, fun _ _ h => h, fun _ _ h => .inl h, fun t x hx => ?_, fun i b h => (by cases h), fun i j b h => (by cases h), fun t b h => (by cases h), fun s t b h => (by cases h), fun b cs h => (by cases h), fun i b h => (by cases h), fun p hp => (by cases hp), fun i mc h => (by cases h), fun _ _ _ => rfl, hG⟩, by simpa using hJ0, Nat.le_refl _, fun _ _ _ => rfl⟩
    obtain ⟨d', v', rfl, _, h5, h6⟩ := argT_rel (.v (.func (.yield ln) #[] #[]) :: exA caps ad) _ 0 hrel t x hx
    simp only [Nat.sub_zero] at h5
    have hlt : t < (.func (.yield ln) #[] #[] :: lb : List Value).length := (List.getElem?_eq_some_iff.1 h5).1
    have : ((.func (.yield ln) #[] #[] :: lb : List Value).toArray ++ Array.replicate (fn.ntmps - (.func (.yield ln) #[] #[] :: lb : List Value).toArray.size) undef).getD t undef = v' := by
      rw [Array.getD_eq_getD_getElem?, Array.getElem?_append, if_pos (by simpa using hlt), List.getElem?_toArray, h5]; rfl
    show RelX _ _ _ _ (.d d') _
    rw [this]; exact h6
  refine codeY_sound hc K hm a3 cd hd _ _ w (ghW m) _ w (h ln ad a1) I0 _ fun e s W' g' a' w' hp I' => ?_
  have hfin : a'.defers = [] ∧ ∃ v, (results fn a'.tmps).run P w' = .ok v w' ∧ ((∃ v', Ending.returned v = .returned v') ∧ (J l w' ∨ Jx w')) := by
    refine ⟨I'.defers, ?_⟩
    obtain ⟨v, h1, _⟩ := ret_rel (m := m) (P := P) (fn := fn) (tm := a'.tmps) (w := w') (us := []) (r := []) (by rw [hres]; rfl) (by simp [RelL])
    refine ⟨v, h1, ⟨v, rfl⟩, ?_⟩
    have hnow := I'.now K
    split at hnow
    · exact .inr hnow
    · rename_i hs
      rcases hp.2.2 with h | h
      · exact absurd h hs
      · rw [h] at hnow; exact .inl hnow
  cases e with
  | normal => exact hfin
  | exit i => exact absurd rfl (hp.1 i)
  | ret => exact hfin
  | pan v => exact absurd rfl (hp.2.1 v)
end
def Cx.thenY (c : Cx) (adr : Adr) (ln : Nat) (l : List (List Value)) (b : Code) (Post : AEx → SY → Prop) : AEx → SY → Prop
  | .normal, s => c.codeY adr ln l b Post s
  | e, s => Post e s
def blkY (id : Nat) (Post : AEx → SY → Prop) : AEx → SY → Prop
  | .exit j, s => if j = id then Post .normal s else Post (.exit j) s
  | e, s => Post e s
def Cx.endY (c : Cx) (id : Nat) (Post : AEx → SY → Prop) (s : SY) : Prop := Post .normal ⟨c.close id s.σ, s.ys, s.stop⟩
def againY (I : Nat → SY → Prop) (n : Nat) (Post : AEx → SY → Prop) : AEx → SY → Prop
  | .normal, s => ∃ m, m < n ∧ I m s
  | e, s => Post e s
def Cx.loopY (c : Cx) (adr : Adr) (ln : Nat) (l : List (List Value)) (a : Code) (Post : AEx → SY → Prop) (s : SY) : Prop := c.codeY adr ln l (.loop a) Post s
def Cx.opsYV (c : Cx) (adr : Adr) (ln : Nat) (l : List (List Value)) (ops : List Oper) (i : Nat) (d : Option Nat) (t : List Oper) (Post : SY → Prop) (s : SY) : Option (List Value) → Prop
  | some vs => s.stop = false ∧ (s.ys ++ [vs]) <+: l ∧ dstB c.N d = true ∧ adrIn adr s.σ.tmps ∧ c.opsY adr ln l ops (i + 1) t Post ⟨backY s.σ d true, s.ys ++ [vs], false⟩ ∧ c.opsY adr ln l ops (i + 1) t Post ⟨backY s.σ d false, s.ys ++ [vs], true⟩
  | none => False
def Cx.opsYS (c : Cx) (adr : Adr) (ln : Nat) (l : List (List Value)) (ops : List Oper) (i : Nat) (t : List Oper) (Post : SY → Prop) (ys : List (List Value)) (b : Bool) : Option St → Prop
  | some σ' => c.opsY adr ln l ops (i + 1) t Post ⟨σ', ys, b⟩
  | none => False
def Cx.opsYY (c : Cx) (adr : Adr) (ln : Nat) (l : List (List Value)) (ops : List Oper) (i : Nat) (o : Oper) (t : List Oper) (Post : SY → Prop) (s : SY) : Option (List X) → Prop
  | some xs => c.opsYV adr ln l ops i o.dst t Post s (valsX xs)
  | none => c.opsYS adr ln l ops i t Post s.ys s.stop (c.stepE ops i o s.σ)
def Cx.opsYW (c : Cx) (adr : Adr) (ln : Nat) (l : List (List Value)) (ops : List Oper) (i : Nat) (o : Oper) (t : List Oper) (Post : SY → Prop) (s : SY) : Option Bool → Prop
  | some true => c.opsYY adr ln l ops i o t Post s (yielded1 ln s.σ o)
  | _ => c.opsYS adr ln l ops i t Post s.ys s.stop (c.stepE ops i o s.σ)
def Cx.condY (c : Cx) (adr : Adr) (ln : Nat) (l : List (List Value)) (a b : Code) (Post : AEx → SY → Prop) (s : SY) : X → Prop
  | .d (.v (.bool true)) => c.codeY adr ln l a Post s
  | .d (.v (.bool false)) => c.codeY adr ln l b Post s
  | _ => False
def regY (Post : AEx → SY → Prop) (ys : List (List Value)) (b : Bool) : Option St → Prop
  | some σ' => Post .normal ⟨σ', ys, b⟩
  | none => False
section
variable (c : Cx) (adr : Adr) (ln : Nat) (l : List (List Value)) (Post : AEx → SY → Prop) (s : SY)
theorem codeY_skip : c.codeY adr ln l .skip Post s = Post .normal s := rfl
theorem codeY_label (x : Nat) : c.codeY adr ln l (.label x) Post s = Post .normal s := rfl
theorem codeY_exit (x : Nat) : c.codeY adr ln l (.exit x) Post s = Post (.exit x) s := rfl
theorem codeY_ret : c.codeY adr ln l .ret Post s = Post .ret s := rfl
theorem codeY_scope (a : Code) : c.codeY adr ln l (.scope a) Post s = c.codeY adr ln l a Post s := rfl
theorem codeY_seq (a b : Code) : c.codeY adr ln l (.seq a b) Post s = c.codeY adr ln l a (c.thenY adr ln l b Post) s := by
  simp only [Cx.codeY]
  congr 1
  funext e s'
  cases e <;> rfl
theorem thenY_n (b : Code) : c.thenY adr ln l b Post .normal s = c.codeY adr ln l b Post s := rfl
theorem thenY_e (b : Code) (j : Nat) : c.thenY adr ln l b Post (.exit j) s = Post (.exit j) s := rfl
theorem thenY_r (b : Code) : c.thenY adr ln l b Post .ret s = Post .ret s := rfl
theorem codeY_block (id : Nat) (a : Code) : c.codeY adr ln l (.block id a) Post s = c.codeY adr ln l a (blkY id Post) s := by
  simp only [Cx.codeY]
  congr 1
  funext e s'
  cases e <;> rfl
theorem blkY_n (id : Nat) : blkY id Post .normal s = Post .normal s := rfl
theorem blkY_r (id : Nat) : blkY id Post .ret s = Post .ret s := rfl
theorem blkY_e (id j : Nat) : blkY id Post (.exit j) s = if j = id then Post .normal s else Post (.exit j) s := rfl
theorem codeY_cond (x : Operand) (a b : Code) : c.codeY adr ln l (.cond x a b) Post s = c.condY adr ln l a b Post s (s.σ.ev x) := by
  simp only [Cx.codeY]
  generalize s.σ.ev x = y
  unfold Cx.condY
  cases y with
  | d z =>
    cases z with
    | v u =>
      cases u with
      | bool t => cases t <;> rfl
      | _ => rfl
    | _ => rfl
  | _ => rfl
theorem condY_t (a b : Code) : c.condY adr ln l a b Post s (.d (.v (.bool true))) = c.codeY adr ln l a Post s := rfl
theorem condY_f (a b : Code) : c.condY adr ln l a b Post s (.d (.v (.bool false))) = c.codeY adr ln l b Post s := rfl
theorem codeY_regT (id : Nat) (ops : Array Oper) : c.codeY adr ln l (.region id ops true) Post s = regY Post s.ys s.stop (c.regionM id ops.toList s.σ (c.md id)) := by
  have e : c.regionD id ops.toList s.σ = c.regionM id ops.toList s.σ (c.md id) := by
    unfold Cx.regionD
    generalize c.md id = k
    match k with
    | 0 => rfl
    | 1 => rfl
    | 2 => rfl
    | m + 3 => rfl
  simp only [Cx.codeY, regY, e]
theorem codeY_regF (id : Nat) (ops : Array Oper) : c.codeY adr ln l (.region id ops false) Post s = if startB (allocs ops.toList) s.σ then c.opsY adr ln l ops.toList 0 ops.toList (c.endY id Post) s else False := rfl
theorem regY_some (ys : List (List Value)) (b : Bool) (σ : St) : regY Post ys b (some σ) = Post .normal ⟨σ, ys, b⟩ := rfl
theorem endY_eq (id : Nat) : c.endY id Post s = Post .normal ⟨c.close id s.σ, s.ys, s.stop⟩ := rfl
theorem codeY_loop (a : Code) : c.codeY adr ln l (.loop a) Post s = c.loopY adr ln l a Post s := rfl
theorem loopY_by {a : Code} {Post : AEx → SY → Prop} {s : SY} (I : Nat → SY → Prop) (n : Nat) (h0 : I n s) (h : ∀ n s', I n s' → c.codeY adr ln l a (againY I n Post) s') : c.loopY adr ln l a Post s := by
  refine ⟨I, ⟨n, h0⟩, fun n s' hs => ?_⟩
  have := h n s' hs
  have e : againY I n Post = (fun e s'' => match e with | .normal => ∃ m, m < n ∧ I m s'' | e => Post e s'') := by
    funext e s''; cases e <;> rfl
  rw [e] at this; exact this
theorem againY_n (I : Nat → SY → Prop) (n : Nat) : againY I n Post .normal s = ∃ m, m < n ∧ I m s := rfl
theorem againY_e (I : Nat → SY → Prop) (n j : Nat) : againY I n Post (.exit j) s = Post (.exit j) s := rfl
theorem againY_r (I : Nat → SY → Prop) (n : Nat) : againY I n Post .ret s = Post .ret s := rfl
end
section
variable (c : Cx) (adr : Adr) (ln : Nat) (l : List (List Value)) (ops : List Oper) (i : Nat) (Post : SY → Prop) (s : SY)
theorem opsY_nil : c.opsY adr ln l ops i [] Post s = Post s := rfl
theorem opsY_cons (o : Oper) (t : List Oper) : c.opsY adr ln l ops i (o :: t) Post s = c.opsYW adr ln l ops i o t Post s (aWanted ops s.σ o) := by
  simp only [Cx.opsY]
  unfold Cx.opsYW
  rcases aWanted ops s.σ o with _ | b
  · simp only [Cx.opsYS]
  · cases b with
    | false => simp only [Cx.opsYS]
    | true =>
      simp only [Cx.opsYY]
      cases yielded1 ln s.σ o with
      | none => simp only [Cx.opsYS]
      | some xs => simp only [Cx.opsYV]
theorem opsYW_t (o : Oper) (t : List Oper) : c.opsYW adr ln l ops i o t Post s (some true) = c.opsYY adr ln l ops i o t Post s (yielded1 ln s.σ o) := rfl
theorem opsYW_f (o : Oper) (t : List Oper) : c.opsYW adr ln l ops i o t Post s (some false) = c.opsYS adr ln l ops i t Post s.ys s.stop (c.stepE ops i o s.σ) := rfl
theorem opsYY_n (o : Oper) (t : List Oper) : c.opsYY adr ln l ops i o t Post s none = c.opsYS adr ln l ops i t Post s.ys s.stop (c.stepE ops i o s.σ) := rfl
theorem opsYY_s (o : Oper) (t : List Oper) (xs : List X) : c.opsYY adr ln l ops i o t Post s (some xs) = c.opsYV adr ln l ops i o.dst t Post s (valsX xs) := rfl
theorem opsYS_s (t : List Oper) (ys : List (List Value)) (b : Bool) (σ' : St) : c.opsYS adr ln l ops i t Post ys b (some σ') = c.opsY adr ln l ops (i + 1) t Post ⟨σ', ys, b⟩ := rfl
theorem opsYV_s (d : Option Nat) (t : List Oper) (vs : List Value) : c.opsYV adr ln l ops i d t Post s (some vs) = (s.stop = false ∧ (s.ys ++ [vs]) <+: l ∧ dstB c.N d = true ∧ adrIn adr s.σ.tmps ∧ c.opsY adr ln l ops (i + 1) t Post ⟨backY s.σ d true, s.ys ++ [vs], false⟩ ∧ c.opsY adr ln l ops (i + 1) t Post ⟨backY s.σ d false, s.ys ++ [vs], true⟩) := rfl
theorem stepE_eq (o : Oper) (σ : St) : c.stepE ops i o σ = c.stepEK ops i o σ (c.step ops i o σ) := by
  unfold Cx.stepE
  cases c.step ops i o σ with
  | some σ' => rfl
  | none =>
    simp only [stepEK_none]
    cases aWanted ops σ o with
    | none => rfl
    | some b => cases b <;> rfl
end
theorem rounds_then_all {c : Cx} {a b : Code} {ps al : List Nat} {t0 : List (Nat × X)} {l : List (List Value)} {σ : St} {r : Option (AEx × St)} (hL : c.rounds a b ps al t0 l σ = r) (S : Nat → St) (h0 : σ = S 0) (hs : ∀ j x, l[j]? = some x → roundOf (c.code a) (c.code b) ps al t0 x (S j) = some (.normal, S (j + 1))) : r = some (.normal, S l.length) := by
  subst h0
  rw [← hL]
  have := rounds_all (fa := c.code a) (fb := c.code b) (ps := ps) (al := al) (t0 := t0) l S 0 (fun j x h => by rw [Nat.zero_add]; exact hs j x h)
  rw [Nat.zero_add] at this
  exact this
end Go.Proofs.YtkldmnladkcfeaaGreatDoor
namespace Go.Proofs.YtkldmnladkcfeaaGreatDoor
open Go.RowKit
set_option linter.unusedSimpArgs false
set_option linter.unusedVariables false
set_option linter.unusedSectionVars false
section
variable {P : Program} {c : Cx} {m0 : Nat → Nat → Prop} {w0 : Base} {g : Gh} {σ σ' : St} {a : Act} {w : World} {e : AEx}
theorem Inv.forget (I : Inv c.N m0 w0 g σ a w) (ha : a.defers = w0.df) (al : List Nat) (hal : ∀ d ∈ al, w0.out d = none) : Inv c.N m0 w0 (startG al g) (restT al (keepT al σ.tmps) σ) a w ∧ ∀ d ∈ al, (startG al g).box d = none := by
  have t0no : ∀ t x, getA (keepT al σ.tmps) t = some x → x.noTok := by
    intro t x hx
    obtain ⟨y, _, rfl⟩ := keepT_at hx
    exact keepP_noTok (strip_noTok y)
  have t0rel : ∀ t x, getA (keepT al σ.tmps) t = some x → RelX (startG al g) w 0 [] x (a.tmps.getD t undef) := by
    intro t x hx
    have hno := t0no t x hx
    obtain ⟨y, hy, rfl⟩ := keepT_at hx
    exact (keepP_rel (strip_rel (nw := σ.toks) rfl rfl (I.tmps t y hy))).toks hno
  refine ⟨I.rest (a' := a) hal t0rel (fun t x hx toks hr => hr.toks (t0no t x hx)) I.size ha, fun d hd => ?_⟩
  simp only [startG]
  rw [if_pos (by simpa using hd)]
def pureG (m : Nat → Nat → Prop) : Gh := { imm := m, box := fun _ => none, tok := fun _ => none, used := fun _ => False }
end
end Go.Proofs.YtkldmnladkcfeaaGreatDoor
namespace Go.Proofs.YtkldmnladkcfeaaGreatDoor
open Go.RowKit
set_option linter.unusedSimpArgs false
set_option linter.unusedVariables false
set_option linter.unusedSectionVars false
def pureD (w : World) (l : List Deferred) : Base := ⟨w, fun _ => none, fun _ => none, [], False, l⟩
theorem pureD_no (w : World) (l : List Deferred) (b : Nat) : ¬ (pureD w l).writ b := by
  rintro (⟨i, hi⟩ | ⟨t, ht⟩)
  · cases hi
  · cases ht
theorem inv_args {P : Program} {N : Nat} {m : Nat → Nat → Prop} {w : World} {vs : List Value} {ds : List D} {fn : Func} (hN : fn.ntmps = N) (hl : ds.length ≤ N) (hm : ∀ b o, m b o → b < w.heap.size) (hG : GlobIn m w) (hr : RelL m w ds vs) :
    Inv N m (pureD w []) (pureG m) ⟨argT 0 ds, [], [], []⟩ { tmps := vs.toArray ++ Array.replicate (fn.ntmps - vs.toArray.size) undef, defers := [] } w := by
  have hvl := hr.length
  refine ⟨KeepsW.refl _ _, by simp; omega, ⟨[], rfl, List.nodup_nil, fun D h => by cases h⟩, hm, fun _ _ h => h, fun _ _ h => .inl h, fun t x hx => ?_, fun i b h => (by cases h), fun i j b h => (by cases h), fun t b h => (by cases h), fun s t b h => (by cases h), fun b cs h => (by cases h), fun i b h => (by cases h), fun p hp => (by cases hp), fun i mc h => (by cases h), fun _ _ _ => rfl, hG⟩
  obtain ⟨d', v', rfl, _, h5, h6⟩ := argT_rel ds vs 0 hr t x hx
  simp only [Nat.sub_zero] at h5
  have hlt : t < vs.length := (List.getElem?_eq_some_iff.1 h5).1
  have : (vs.toArray ++ Array.replicate (fn.ntmps - vs.toArray.size) undef).getD t undef = v' := by
    rw [Array.getD_eq_getD_getElem?, Array.getElem?_append, if_pos (by simpa using hlt)]
    simp [h5]
  show RelX _ _ _ _ (.d d') _
  rw [this]; exact h6
def RetR (m : Nat → Nat → Prop) (w : World) (d : D) (e : Ending) (w' : World) : Prop :=
  ∃ (v : Value) (m' : Nat → Nat → Prop), e = .returned v ∧ Below w.heap.size w w' ∧ (∀ b o, m' b o → w.heap.size ≤ b ∧ b < w'.heap.size) ∧ Rel (fun b o => m b o ∨ m' b o) w' d v
section
variable {P : Program} {c : Cx} {m0 : Nat → Nat → Prop} {w0 : Base} {g : Gh} {σ σ' : St} {a : Act} {w : World} {e : AEx}
theorem Inv.noMark (I : Inv c.N m0 w0 g σ a w) (h : ¬ w0.dOk) : a.defers = w0.df := by
  obtain ⟨Ds, h1, _, h3⟩ := I.defers
  cases Ds with
  | nil => exact h1
  | cons D t => exact (h (h3 D (by simp)).1.2).elim
theorem Inv.deferred {N : Nat} {W : World} {l : List Deferred} (I : Inv N m0 (pureD W l) g σ a w) : a.defers = l := by
  obtain ⟨Ds, h1, _, h3⟩ := I.defers
  cases Ds with
  | nil => exact h1
  | cons D t => exact ((h3 D (by simp)).1.2).elim
theorem Inv.push {w : World} {W : World} {l : List Deferred} (I : Inv c.N m0 (pureD W l) g σ a w) (d : Deferred) (tm : Array Value) (ht : tm = a.tmps) : Inv c.N m0 (pureD W (d :: l)) g σ { tmps := tm, defers := d :: a.defers } w := by
  have hd := I.noMark (fun h => h)
  subst ht
  exact ⟨I.below, I.size, ⟨[], by rw [hd]; rfl, List.nodup_nil, fun D h => by cases h⟩, I.lt, I.old, I.new, I.tmps, I.boxb, I.boxi, I.tokb, I.toki, I.boxes, I.out, I.fz, I.maps, I.cells⟩
def pureO (w : World) (o : Nat → Option Nat) (l : List Deferred) : Base := ⟨w, o, fun _ => none, [], False, l⟩
theorem Inv.pushO {N : Nat} {W : World} (I : Inv N m0 (pureD W []) g σ a w) (o : Nat → Option Nat) (ho : ∀ i b, o i = some b → g.box i = some b) (l : List Deferred) (a' : Act) (ht : a'.tmps = a.tmps) (hl : a'.defers = l) : Inv N m0 (pureO W o l) g σ a' w := by
  have hno := pureD_no W []
  refine ⟨⟨I.below.os, I.below.tape, I.below.output, I.below.size, fun k hk hn => I.below.block k hk (hno k)⟩, by rw [ht]; exact I.size, ⟨[], by rw [hl]; rfl, List.nodup_nil, fun D h => by cases h⟩, I.lt, I.old, fun b o h => ?_, by rw [ht]; exact I.tmps, fun i b h => ⟨.inl ((I.boxb i b h).1.resolve_right (hno b)), (I.boxb i b h).2⟩, I.boxi, fun t b h => ⟨(I.tokb t b h).1, .inl ((I.tokb t b h).2.1.resolve_right (hno b)), (I.tokb t b h).2.2⟩, I.toki, I.boxes, ho, I.fz, I.maps, I.cells⟩
  rcases I.new b o h with h | h | h
  · exact .inl h
  · exact .inr (.inl h)
  · exact absurd h (hno b)
theorem Inv.reframe {N N2 : Nat} {W : World} {o : Nat → Option Nat} {l l2 : List Deferred} (I : Inv N m0 (pureO W o l) g σ a w) {a2 : Act} {T : List (Nat × X)} (hs : a2.tmps.size = N2) (hd : a2.defers = l2) (ht : ∀ t x, getA T t = some x → RelX g w W.heap.size σ.toks x (a2.tmps.getD t undef)) : Inv N2 m0 (pureO W o l2) g { σ with tmps := T } a2 w :=
  ⟨⟨I.below.os, I.below.tape, I.below.output, I.below.size, fun k hk hn => I.below.block k hk hn⟩, hs, ⟨[], by rw [hd]; rfl, List.nodup_nil, fun D h => by cases h⟩, I.lt, I.old, I.new, ht, I.boxb, I.boxi, I.tokb, I.toki, I.boxes, I.out, I.fz, I.maps, I.cells⟩
theorem getA_map {α β : Type} {f : Nat × α → β} : ∀ {l : List (Nat × α)} {i : Nat} {y : β}, getA (l.map fun p => (p.1, f p)) i = some y → ∃ p ∈ l, p.1 = i ∧ y = f p
  | [], i, y, h => by cases h
  | p :: t, i, y, h => by
    simp only [List.map_cons, getA] at h
    split at h
    · rename_i e
      simp only [Option.some.injEq] at h
      exact ⟨p, by simp, e.symm, h.symm⟩
    · obtain ⟨q, h1, h2⟩ := getA_map h
      exact ⟨q, by simp [h1], h2⟩
theorem Inv.bare {N : Nat} (I : Inv N m0 w0 g σ a w) (bs : List (Nat × Nat)) (h : ∀ p ∈ bs, ∃ cs, getA σ.boxes p.1 = some cs ∧ cs.length = p.2) : Inv N m0 w0 g ⟨[], bs.map fun p => (p.1, List.replicate p.2 (X.d .top)), [], []⟩ a w := by
  refine ⟨I.below, I.size, I.defers, I.lt, I.old, I.new, fun t x h => (by cases h), I.boxb, I.boxi, I.tokb, I.toki, fun b cs hb blk hblk => ?_, I.out, I.fz, fun i mc h => (by cases h), I.cells⟩
  obtain ⟨p, hp, rfl, rfl⟩ := getA_map hb
  obtain ⟨cs, h1, h2⟩ := h p hp
  obtain ⟨vs, ty, k1, k2, k3⟩ := I.boxes _ _ h1 blk hblk
  refine ⟨vs, ty, k1, by rw [List.length_replicate, ← h2]; exact k2, fun j x v q1 q2 => ?_⟩
  have hj : j < cs.length := by
    have := (List.getElem?_eq_some_iff.1 q1).1
    simpa [h2] using this
  refine ⟨(k3 j cs[j] v (List.getElem?_eq_getElem hj) q2).1, ?_⟩
  rw [List.getElem?_replicate] at q1
  split at q1
  · simp only [Option.some.injEq] at q1; subst q1
    simp only [RelX, Rel]
  · cases q1
theorem Inv.dropO {N : Nat} {W : World} {o : Nat → Option Nat} {l : List Deferred} (I : Inv N m0 (pureO W o l) g σ a w) (ho : ∀ i b, o i = some b → W.heap.size ≤ b) : Inv N m0 (pureD W l) g σ a w := by
  have hw : ∀ b, (pureO W o l).writ b → W.heap.size ≤ b := by
    rintro b (⟨i, hi⟩ | ⟨t, ht⟩)
    · exact ho i b hi
    · cases ht
  have hdef : a.defers = l := by
    obtain ⟨Ds, h1, _, h3⟩ := I.defers
    cases Ds with
    | nil => exact h1
    | cons D t => exact ((h3 D (by simp)).1.2).elim
  refine ⟨⟨I.below.os, I.below.tape, I.below.output, I.below.size, fun k hk hn => I.below.block k hk fun h => absurd hk (Nat.not_lt.2 (hw k h))⟩, I.size, ⟨[], by rw [hdef]; rfl, List.nodup_nil, fun D h => by cases h⟩, I.lt, I.old, fun b o h => ?_, I.tmps, fun i b h => ⟨.inl ((I.boxb i b h).1.elim id (hw b)), (I.boxb i b h).2⟩, I.boxi, fun t b h => ⟨(I.tokb t b h).1, .inl ((I.tokb t b h).2.1.elim id (hw b)), (I.tokb t b h).2.2⟩, I.toki, I.boxes, fun i b h => (by cases h), I.fz, I.maps, I.cells⟩
  rcases I.new b o h with h | h | h
  · exact .inl h
  · exact .inr (.inl h)
  · exact .inr (.inl (hw b h))
theorem inv_ret (hc : CxOk P c) {W : World} {l : List Deferred} (I : Inv c.N m0 (pureD W l) g σ a w) {fn : Func} {r : List D} (hres : aResS c.Γ σ fn.results.toList = some r) : ∃ v, (results fn a.tmps).run P w = .ok v w ∧ RetR m0 W (oneOf r) (.returned v) w := by
  obtain ⟨us, h1, h2⟩ := aResS_rel hc I fn.results.toList r hres
  have hno := pureD_no W l
  have hx : ExtM (boxT g) w (fun b o => m0 b o ∨ (boxT g b o ∧ W.heap.size ≤ b)) w := ⟨fun b o h => by
    rcases h with (h | ⟨i, h⟩) | ⟨s, h⟩
    · exact (I.new b o h).imp id fun h2 => ⟨.inl (.inl h), h2.resolve_right (hno b)⟩
    · exact .inr ⟨.inl (.inr ⟨i, h⟩), (I.boxb i b h).1.resolve_right (hno b)⟩
    · exact .inr ⟨.inr ⟨s, h⟩, (I.tokb s b h).2.1.resolve_right (hno b)⟩, fun _ _ _ => rfl⟩
  obtain ⟨v, h3, h4⟩ := ret_rel h1 (RelL.ext hx _ _ h2)
  exact ⟨v, h3, v, (fun b o => boxT g b o ∧ W.heap.size ≤ b), rfl, I.below.below (fun k hk => hno k hk), fun b o h => ⟨h.2, by
    rcases h.1 with (h | ⟨i, h⟩) | ⟨s, h⟩
    · exact I.lt b o h
    · exact (I.boxb i b h).2.1
    · exact (I.tokb s b h).1⟩, h4⟩
theorem post_ret (hc : CxOk P c) {W : World} (I : Inv c.N m0 (pureD W []) g σ a w) {fn : Func} {r : List D} {d : D} (hres : aResS c.Γ σ fn.results.toList = some r) (hd : oneOf r = d) : bodyPostD P fn (RetR m0 W d) .ret a w := by
  subst hd
  show Leaves P fn a.tmps (RetR m0 W (oneOf r)) a.defers .returning w
  rw [I.noMark (fun h => h)]
  exact inv_ret hc I hres
theorem RetR.imp {m : Nat → Nat → Prop} {W : World} {d d' : D} {e : Ending} {w : World} (h : DImp d d') (hr : RetR m W d e w) : RetR m W d' e w := by
  obtain ⟨v, m', h1, h2, h3, h4⟩ := hr
  exact ⟨v, m', h1, h2, h3, h _ _ _ h4⟩
theorem inv_ret_dec {α : Type} (R : Cod α) (r : α) (hc : CxOk P c) {W : World} {l : List Deferred} (I : Inv c.N m0 (pureD W l) g σ a w) {fn : Func} {rs : List D} (hres : aResS c.Γ σ fn.results.toList = some rs) (hd : R.dec (oneOf rs) = some r) : ∃ v, (results fn a.tmps).run P w = .ok v w ∧ RetR m0 W (R.enc r) (.returned v) w := by
  obtain ⟨v, h1, h2⟩ := inv_ret hc I hres
  exact ⟨v, h1, h2.imp (R.ed _ _ hd)⟩
theorem post_ret_dec {α : Type} (R : Cod α) (r : α) (hc : CxOk P c) {W : World} (I : Inv c.N m0 (pureD W []) g σ a w) {fn : Func} {rs : List D} (hres : aResS c.Γ σ fn.results.toList = some rs) (hd : R.dec (oneOf rs) = some r) : bodyPostD P fn (RetR m0 W (R.enc r)) .ret a w := by
  show Leaves P fn a.tmps (RetR m0 W (R.enc r)) a.defers .returning w
  rw [I.noMark (fun h => h)]
  exact inv_ret_dec R r hc I hres hd
theorem pure_handD {f : Nat} {fn : Func} {cd : Code} (hf : P.funcs[f]? = some fn) (hb : fn.body = some cd) {N : Nat} (hN : fn.ntmps = N) {ds : List D} {d : D} (hl : ds.length ≤ N)
    (h : ∀ (m : Nat → Nat → Prop) (w : World) (a : Act), Inv N m (pureD w []) (pureG m) ⟨argT 0 ds, [], [], []⟩ a w → a.defers = [] → cd.wpIn Fence.wide 0 P (bodyPostD P fn (RetR m w d)) a w) : PureC P f ds d := by
  intro m w vs hm hG hr
  exact calls_of_wp_defers hf hb (wpIn_wide.1 (h m w _ (inv_args (P := P) hN hl hm hG hr) rfl))
def codeK (c : Cx) (m0 : Nat → Nat → Prop) (w0 : Base) (Q : Exit → Act → World → Prop) : Option (AEx × St) → Prop
  | some (e, σ') => ∀ g' a' w', Inv c.N m0 w0 g' σ' a' w' → Q e.out a' w'
  | none => False
theorem codeK_some (Q : Exit → Act → World → Prop) : codeK c m0 w0 Q (some (e, σ')) = ∀ g' a' w', Inv c.N m0 w0 g' σ' a' w' → Q e.out a' w' := rfl
theorem loop_thenK {b : Code} {σ0 : St} {R : Option (AEx × St)} (hL : c.loop b σ0 = R) (S : Nat → St) (n : Nat) (h0 : σ0 = S 0) (K : Option (AEx × St) → Prop) (hs : ∀ j, j < n → c.code b (S j) = some (.normal, S (j + 1))) (hF : n < c.F) (hK : K none → False) (h : K (stopK (c.code b (S n)))) : K R := by
  subst h0
  cases hc : c.code b (S n) with
  | none => rw [hc] at h; exact (hK h).elim
  | some p =>
    obtain ⟨e, σ'⟩ := p
    rw [hc] at h
    cases e with
    | normal => exact (hK h).elim
    | _ => rw [← hL, loop_run S _ σ' n (by simp) hs hc hF]; exact h
theorem noOut {cd : Code} {o : Nat → Option Nat} (h : (allocsC cd).all (fun d => (o d).isNone) = true) : ∀ d ∈ allocsC cd, o d = none := fun d hd => by
  have := List.all_eq_true.1 h d hd
  simpa using this
theorem am_code (hc : CxOk P c) {cd : Code} (hd : drawsB c.diff c.md c.pq cd = true) (hno : noRF cd = true) (I : Inv c.N m0 w0 g σ a w) (hal : ∀ d ∈ allocsC cd, w0.out d = none) {Q : Exit → Act → World → Prop} (hQ : codeK c m0 w0 Q (c.code cd σ)) : cd.wpIn Fence.wide 0 P Q a w := by
  cases h : c.code cd σ with
  | none => rw [h] at hQ; exact hQ.elim
  | some r =>
    obtain ⟨e, σ'⟩ := r
    rw [h] at hQ
    exact code_sound hc cd hd Fence.wide 0 (.inl rfl) m0 w0 (.inl hno) σ e σ' h hal g a w I Q hQ
def cutA : Nat → Code → Code
  | 0, .seq a _ => a
  | k + 1, .seq a b => .seq a (cutA k b)
  | _, c => c
def cutB : Nat → Code → Code
  | 0, .seq _ b => b
  | k + 1, .seq _ b => cutB k b
  | _, _ => .skip
def canCut : Nat → Code → Bool
  | 0, .seq _ _ => true
  | k + 1, .seq _ b => canCut k b
  | _, _ => false
theorem am_cut (hc : CxOk P c) {Q : Exit → Act → World → Prop} : ∀ (k : Nat) (cd : Code), canCut k cd = true → drawsB c.diff c.md c.pq (cutA k cd) = true → noRF (cutA k cd) = true → (∀ d ∈ allocsC (cutA k cd), w0.out d = none) → ∀ (σ : St) (g : Gh) (a : Act) (w : World), Inv c.N m0 w0 g σ a w →
    codeK c m0 w0 (fun e a' w' => match e with | .normal => (cutB k cd).wpIn Fence.wide 0 P Q a' w' | e => Q e a' w') (c.code (cutA k cd) σ) → cd.wpIn Fence.wide 0 P Q a w
  | 0, .seq x y, _, hd, hno, hal, σ, g, a, w, I, hQ => by
    refine wpIn_seq (am_code (cd := x) hc hd hno I hal ?_)
    simp only [cutA] at hQ
    cases h : c.code x σ with
    | none => rw [h] at hQ; exact hQ.elim
    | some r =>
      obtain ⟨e, σ'⟩ := r
      rw [h, codeK_some] at hQ
      rw [codeK_some]
      intro g' a' w' I'
      have := hQ g' a' w' I'
      cases e <;> exact this
  | k + 1, .seq x y, hcc, hd, hno, hal, σ, g, a, w, I, hQ => by
    simp only [cutA, drawsB, noRF, allocsC, canCut, Bool.and_eq_true, List.mem_append] at hcc hd hno hal hQ
    refine wpIn_seq (am_code (cd := x) hc hd.1 hno.1 I (fun d h => hal d (.inl h)) ?_)
    simp only [Cx.code] at hQ
    cases h : c.code x σ with
    | none => rw [h] at hQ; exact hQ.elim
    | some r =>
      obtain ⟨e, σ'⟩ := r
      rw [h] at hQ
      rw [codeK_some]
      intro g' a' w' I'
      cases e with
      | normal => exact am_cut hc k y hcc hd.2 hno.2 (fun d h => hal d (.inr h)) σ' g' a' w' I' hQ
      | exit i => exact hQ g' a' w' I'
      | ret => exact hQ g' a' w' I'
      | pan v => exact hQ g' a' w' I'
  | 0, .skip, h, _, _, _, _, _, _, _, _, _ => by cases h
  | 0, .label _, h, _, _, _, _, _, _, _, _, _ => by cases h
  | 0, .region _ _ _, h, _, _, _, _, _, _, _, _, _ => by cases h
  | 0, .cond _ _ _, h, _, _, _, _, _, _, _, _, _ => by cases h
  | 0, .block _ _, h, _, _, _, _, _, _, _, _, _ => by cases h
  | 0, .loop _, h, _, _, _, _, _, _, _, _, _ => by cases h
  | 0, .rangeFunc _ _ _ _, h, _, _, _, _, _, _, _, _, _ => by cases h
  | 0, .exit _, h, _, _, _, _, _, _, _, _, _ => by cases h
  | 0, .scope _, h, _, _, _, _, _, _, _, _, _ => by cases h
  | 0, .goto _, h, _, _, _, _, _, _, _, _, _ => by cases h
  | 0, .ret, h, _, _, _, _, _, _, _, _, _ => by cases h
  | 0, .refuse _, h, _, _, _, _, _, _, _, _, _ => by cases h
  | _ + 1, .skip, h, _, _, _, _, _, _, _, _, _ => by cases h
  | _ + 1, .label _, h, _, _, _, _, _, _, _, _, _ => by cases h
  | _ + 1, .region _ _ _, h, _, _, _, _, _, _, _, _, _ => by cases h
  | _ + 1, .cond _ _ _, h, _, _, _, _, _, _, _, _, _ => by cases h
  | _ + 1, .block _ _, h, _, _, _, _, _, _, _, _, _ => by cases h
  | _ + 1, .loop _, h, _, _, _, _, _, _, _, _, _ => by cases h
  | _ + 1, .rangeFunc _ _ _ _, h, _, _, _, _, _, _, _, _, _ => by cases h
  | _ + 1, .exit _, h, _, _, _, _, _, _, _, _, _ => by cases h
  | _ + 1, .scope _, h, _, _, _, _, _, _, _, _, _ => by cases h
  | _ + 1, .goto _, h, _, _, _, _, _, _, _, _, _ => by cases h
  | _ + 1, .ret, h, _, _, _, _, _, _, _, _, _ => by cases h
  | _ + 1, .refuse _, h, _, _, _, _, _, _, _, _, _ => by cases h
theorem wp_defer {o : Oper} {next : Act → World → Prop} {Q : Exit → Act → World → Prop} {d : Deferred} (hr : (execOp a.eval o).run P w = .ok (.defer d) w) (hn : next ({ a with defers := d :: a.defers }.put o.dst undef) w) : o.wpIn Fence.wide 0 P a w next Q := by
  refine ⟨fun f _ => trivial, ?_⟩
  show o.uponIn Fence.wide 0 P a next Q ((Oper.semAt none a.eval o).run P w)
  rw [Oper.semAt_none, hr]
  exact hn
theorem leaves_idle {fn : Func} {tm : Array Value} {R : Ending → World → Prop} {d : Deferred} {G : Nat} {caps : Array Value} (hd : d = { target := .fn (.func G) caps, args := #[] }) (hen : ∀ xs w, (callFunc G xs).run P w = .ok (.enter G xs) w)
    (h : CallsD P G caps .returning w fun e u w'' => e = .returned (.tuple #[]) ∧ u = .returning ∧ w'' = w) (hr : ∃ v, (results fn tm).run P w = .ok v w ∧ R (.returned v) w) : Leaves P fn tm R [d] .returning w := by
  subst hd
  refine ⟨by simp, .func G, caps, G, caps, rfl, by simp [invoke, hen], ?_⟩
  intro cf cs hcf
  obtain ⟨e, u', w', fr, ⟨rfl, rfl, rfl⟩, hs⟩ := h cf cs hcf
  exact ⟨_, _, _, fr, hr, hs⟩
theorem leaves_catch {fn : Func} {tm : Array Value} {R : Ending → World → Prop} {d : Deferred} {G : Nat} {caps : Array Value} {v : Value} {K : World → Prop} (hd : d = { target := .fn (.func G) caps, args := #[] }) (hen : ∀ xs w, (callFunc G xs).run P w = .ok (.enter G xs) w)
    (h : CallsD P G caps (.panicking [{ v, recovered := false }]) w fun e u w'' => e = .returned (.tuple #[]) ∧ u = .panicking [{ v, recovered := true }] ∧ K w'') (hr : ∀ w'', K w'' → ∃ v, (results fn tm).run P w'' = .ok v w'' ∧ R (.returned v) w'') : Leaves P fn tm R [d] (.panicking [{ v, recovered := false }]) w := by
  subst hd
  refine ⟨by simp, .func G, caps, G, caps, rfl, by simp [invoke, hen], ?_⟩
  intro cf cs hcf
  obtain ⟨e, u', w', fr, ⟨rfl, rfl, hk⟩, hs⟩ := h cf cs hcf
  exact ⟨_, _, _, fr, hr w' hk, hs⟩
end
end Go.Proofs.YtkldmnladkcfeaaGreatDoor
namespace Go.Proofs.YtkldmnladkcfeaaGreatDoor
open Go.RowKit
set_option linter.unusedSimpArgs false
set_option linter.unusedVariables false
set_option linter.unusedSectionVars false
section
variable {P : Program} {c : Cx} {N : Nat} {m0 : Nat → Nat → Prop} {w0 : Base} {g : Gh} {σ σ' : St} {a : Act} {w w' : World} {e : AEx}
def thenL (F : Fence) (n : Nat) (P : Program) (ops : Array Oper) (post : List Oper) (Q : Exit → Act → World → Prop) : Exit → Act → World → Prop
  | .normal, a, w => wpListIn F n P ops Q post a w
  | e, a, w => Q e a w
theorem wpList_app {F : Fence} {n : Nat} {ops : Array Oper} {Q : Exit → Act → World → Prop} {post : List Oper} : ∀ (pre : List Oper) (a : Act) (w : World), wpListIn F n P ops (thenL F n P ops post Q) pre a w → wpListIn F n P ops Q (pre ++ post) a w
  | [], a, w, h => h
  | o :: t, a, w, h => by
    simp only [List.cons_append]
    unfold wpListIn at h ⊢
    split at h
    · rename_i hw
      rw [if_pos hw]
      exact Oper.wpIn_mono2 (fun a w h => wpList_app t a w h) (fun _ _ _ h => h) (fun h => h) h
    · rename_i hw
      rw [if_neg hw]
      exact ⟨h.1, wpList_app t _ _ h.2⟩
def lastK (c : Cx) (m0 : Nat → Nat → Prop) (w0 : Base) (g : Gh) (w : World) (R : Act → World → Prop) : Option St → Prop
  | some σ' => ∀ g' a' w', Inv c.N m0 w0 g' σ' a' w' → a'.defers = [] → w.heap.size ≤ w'.heap.size → (∀ b, b < w.heap.size → Away g b → Away g' b ∧ w'.heap[b]? = w.heap[b]?) → R a' w'
  | none => False
theorem loop_hand {b : Code} {Q : Exit → Act → World → Prop} (J : Nat → Act → World → Prop) (N : Nat) (hs : ∀ k, k < N → ∀ a w, J k a w → b.wpIn Fence.wide 0 P (Exit.then (J (k + 1)) Q) a w) (he : ∀ a w, J N a w → b.wpIn Fence.wide 0 P (Exit.then (fun _ _ => False) Q) a w) (h : J 0 a w) : (Code.loop b).wpIn Fence.wide 0 P Q a w := by
  refine wpIn_loop_rounds (N + 1) ?_
  have key : ∀ (j k : Nat), k + j = N → ∀ a w, J k a w → Code.roundsIn Fence.wide 0 P b Q (j + 1) a w := by
    intro j
    induction j with
    | zero =>
      intro k hk a w hJ
      rw [roundsIn_succ]
      have hkN : k = N := by omega
      subst hkN
      refine wpIn_mono (he a w hJ) fun e a w h => ?_
      cases e <;> first | exact h | exact h.elim
    | succ j ih =>
      intro k hk a w hJ
      rw [roundsIn_succ]
      refine wpIn_mono (hs k (by omega) a w hJ) fun e a w h => ?_
      cases e <;> first | exact h | exact ih (k + 1) (by omega) a w h
  exact key N 0 (by omega) a w h
end
end Go.Proofs.YtkldmnladkcfeaaGreatDoor
namespace Go.Proofs.YtkldmnladkcfeaaGreatDoor
open Go.RowKit
set_option linter.unusedSimpArgs false
set_option linter.unusedVariables false
set_option linter.unusedSectionVars false
section
variable {P : Program} {c : Cx} {m0 : Nat → Nat → Prop} {w0 : Base} {g : Gh} {σ : St} {a : Act} {w : World}
theorem Inv.freeze (I : Inv c.N m0 w0 g σ a w) (ha : a.defers = w0.df) {b t : Nat} {cs : List X} {ds : List D} (hb : getA σ.boxes b = some cs) (hd : dataL cs = some ds) (ht : getA σ.tmps t = some (.loc b 0)) (hal : w0.out b = none) :
    ∃ g', Inv c.N m0 w0 g' (restT [b] ((t, .d (.dat ds.length [ds] 0 0)) :: keepT [b] σ.tmps) σ) a w := by
  obtain ⟨blk, hblk, hv⟩ := I.tmps t _ ht
  obtain ⟨I1, hnone⟩ := I.forget ha [b] (fun d hd => by rw [List.mem_singleton.1 hd]; exact hal)
  obtain ⟨cv, ty, hh, hs, hc⟩ := I.boxes b cs hb blk hblk
  have hl := dataL_length hd
  have hrel : RelL g.imm w ds cv.toList := dataL_rel (base := w0.heap.size) (toks := σ.toks) hd (by simpa using hs) fun j x v k1 k2 => (hc j x v k1 (by simpa using k2)).2
  have hbb := I.boxb b blk hblk
  have hbox : ∀ i b', (startG [b] g).box i = some b' → i ≠ b ∧ g.box i = some b' := fun i b' h => by
    simp only [startG] at h
    split at h
    · cases h
    · rename_i hn
      exact ⟨fun e => hn (by subst e; simp), h⟩
  have e : Tr (startG [b] g) w σ.toks { startG [b] g with imm := fun k o => g.imm k o ∨ k = blk } w σ.toks :=
    ⟨⟨fun _ _ h => .inl h, fun _ _ _ => rfl⟩, fun _ _ h => h, fun _ h => h, fun t _ h => ⟨h, fun b' hb' => ⟨hb', fun x hx => hx.resolve_right fun e => (I.tokb t b' hb').2.2 b (by rw [hblk, e]), rfl⟩⟩⟩
  refine ⟨{ startG [b] g with imm := fun k o => g.imm k o ∨ k = blk }, ?_⟩
  refine ⟨I1.below, I1.size, I1.defers, fun k o h => h.elim (I1.lt k o) (fun e => by subst e; exact hbb.2.1), fun k o h => .inl (I1.old k o h), fun k o h => h.elim (I1.new k o) (fun e => by subst e; exact .inr hbb.1), fun t' x hx => ?_, fun i b' h => ?_, I1.boxi, I1.tokb, I1.toki, fun b' cs' h blk' hblk' => BoxAt.tr e (I1.boxes b' cs' h blk' hblk') rfl, I1.out, I1.fz, I1.maps, I1.cells⟩
  · simp only [restT, getA] at hx
    split at hx
    · rename_i ht'
      subst ht'
      simp only [Option.some.injEq] at hx
      subst hx
      rw [hv]
      simp only [RelX, Rel]
      refine ⟨by simp, blk, 0, by simp, RelRows.of fun i r hr => ?_⟩
      cases i with
      | succ i => simp at hr
      | zero =>
        simp only [List.getElem?_cons_zero, Option.some.injEq] at hr
        subst hr
        refine ⟨rfl, RelCells.of fun j d hj => ?_⟩
        obtain ⟨v, hv', hr⟩ := hrel.get _ _ hj
        have hjl : j < cs.length := by rw [← hl]; exact (List.getElem?_eq_some_iff.1 hj).1
        have hv2 : cv[j]? = some v := by simpa using hv'
        refine ⟨v, .inr rfl, ?_, (hc j cs[j] v (List.getElem?_eq_getElem hjl) hv2).1, snapX_rel (fun _ _ h => .inl h) hr⟩
        have := cellAt blk (0 + 0 * ds.length + j) 0 cv ty hh
        simpa [hv2] using this
    · exact RelX.tr e (I1.tmps t' x hx)
  · obtain ⟨h1, h2⟩ := hbox i b' h
    have := I.boxb i b' h2
    exact ⟨this.1, this.2.1, fun o ho => ho.elim (this.2.2 o) fun e => h1 (I.boxi i b b' h2 (by rw [hblk, e]))⟩
end
end Go.Proofs.YtkldmnladkcfeaaGreatDoor
namespace Go.Proofs.YtkldmnladkcfeaaGreatDoor
open Go.RowKit
set_option linter.unusedSimpArgs false
set_option linter.unusedVariables false
set_option linter.unusedSectionVars false
theorem zeroCells_one {z : Array Value} (h : ∀ v ∈ z.toList, v.oneCell' = true) (n : Nat) : ∀ v ∈ (Builtin.zeroCells z n).toList, v.oneCell' = true := by
  intro v hv
  simp only [Builtin.zeroCells, Array.toList_map, List.mem_map] at hv
  obtain ⟨i, hi, rfl⟩ := hv
  have hi' : i < n * z.size := by simpa using hi
  have hz : 0 < z.size := by
    rcases Nat.eq_zero_or_pos z.size with h0 | h0
    · rw [h0] at hi'; omega
    · exact h0
  have hlt := Nat.mod_lt i hz
  rw [getElem!_pos z _ hlt]
  exact h _ (by simp)
section
variable {P : Program} {c : Cx} {m0 : Nat → Nat → Prop} {w0 : Base} {g : Gh} {σ σ' : St} {a : Act} {w : World}
theorem run_append_box (hc : CxOk P c) {T ty e : TypeId} {ti j : TyI} {k : Nat} {rows' : List (List D)} {vs vx : Value} (hT : c.Γ T = some ti) (he : ti.elem = some e) (hj : c.Γ e = some j) (hne : rows' ≠ []) (c4 : rows'.length ≤ 140737488355328) (c5 : rows'.length * j.bytes ≤ 140737488355328)
    (I : Inv c.N m0 w0 g σ a w) (rs : RelX g w w0.heap.size σ.toks (.sl k [] .ex) vs) (rx : Rel g.imm w (.sl j.size rows') vx) {d : Nat} (hd : d < c.N) (hg : g.box d = none) (hmd : getA σ.maps d = none) :
    ∃ m v w', (Builtin.append_ #[T, T] ty #[vs, vx]).run P w = .ok v w' ∧ Inv c.N m0 w0 { g with box := fun i => if i = d then some w.heap.size else g.box i } { σ with tmps := (d, .bs d 0 rows'.length j.size) :: σ.tmps, boxes := (d, rows'.flatten.map X.d ++ List.replicate m (.d .top)) :: σ.boxes } (a.put (some d) v) w' := by
  have hu := (hc.ty T ti hT).und
  have hue : P.underlying T = some (.slice e) := by
    unfold TyI.elem at he
    split at he
    · rename_i e' hd; simp only [Option.some.injEq] at he; subst he; rw [hu, hd]
    · cases he
  have hjok := hc.ty _ _ hj
  obtain ⟨fj, f1, f2, f3, f4⟩ := hjok.inf
  obtain ⟨_, ad, rfl⟩ := rs
  simp only [Rel] at rx
  obtain ⟨l1, xa, xc, rfl, hxc, hrows'⟩ := rx
  obtain ⟨xb, xo, rfl, hrr'⟩ := hrows'.resolve_left hne
  obtain ⟨news, n1, n2, n3, n4⟩ := rows_cells hrr'
  have hml : 0 < rows'.length := List.length_pos_iff.2 hne
  have hnews : ∀ q u, news[q]? = some u → w.cell? ((⟨xb, xo, none⟩ : Addr).add q) = some u := fun q u hq => by rw [addr_add]; exact (n2 q u hq).2.1
  have hone : ∀ u ∈ news, u.oneCell' = true := fun u hu => by
    obtain ⟨q, hq, rfl⟩ := List.getElem_of_mem hu
    exact (n2 q _ (List.getElem?_eq_getElem hq)).2.2
  have o5 : (Builtin.firstCells fj.size 0 (.slice ad 0 0)).run P w.drew = .ok ([] : List Value).toArray w.drew := by
    cases ad <;> simp [Builtin.firstCells, loadCells, loadCellsFrom]
  have hrun := run_append_grow' (P := P) (w := w) T ty e fj j.zero hue f1 f4 ad 0 0 [] o5 ⟨xb, xo, none⟩ rows'.length xc news (by rw [n1, f2]) hnews (by omega) (by omega)
    (by rw [f3]; exact growslice_fits (by omega) (by simpa using c5))
  have hge := grownCap_ge w (0 + rows'.length) 0 e
  generalize grownCap w (0 + rows'.length) 0 e = cap at hrun hge
  generalize hZ : Builtin.zeroCells j.zero.cells (cap - (0 + rows'.length)) = Z at hrun
  have hZ1 : ∀ v ∈ Z.toList, v.oneCell' = true := by rw [← hZ]; exact zeroCells_one hjok.zone _
  have e1 : (([] : List Value).toArray ++ news.toArray ++ Z) = (news ++ Z.toList).toArray := by
    apply Array.ext'; simp
  rw [e1] at hrun
  have hlen : rows'.flatten.length = news.length := n3.length.symm
  refine ⟨Z.toList.length, _, _, hrun, ?_⟩
  have I1 := I.drew
  refine I1.alloc hd hg hmd (.bs d 0 rows'.length j.size) _ (fun g' w' toks hb => ?_) _ _ e (by rw [List.length_append, List.length_append, List.length_map, List.length_replicate, hlen]) (fun v hv => ?_) (fun q x v h1 h2 => ?_)
  · exact ⟨w.heap.size, cap, hb, by simp, by omega⟩
  · rcases List.mem_append.1 hv with h | h
    · exact hone v h
    · exact hZ1 v h
  · rw [List.getElem?_append] at h1 h2
    rw [List.length_map, hlen] at h1
    split at h1
    · rename_i hlt
      rw [if_pos hlt] at h2
      rw [List.getElem?_map] at h1
      obtain ⟨y, hy, rfl⟩ := Option.map_eq_some_iff.1 h1
      obtain ⟨v', q1, q2⟩ := n3.get _ _ hy
      rw [q1] at h2; cases h2
      exact Rel.ext (m := g.imm) (m' := g.imm) (w := w) (w' := w.drew) ⟨fun _ _ h => h, fun _ _ _ => rfl⟩ y v q2
    · rw [List.getElem?_replicate] at h1
      split at h1
      · cases h1; trivial
      · cases h1
def regQ (c : Cx) (m0 : Nat → Nat → Prop) (w0 : Base) (R : Act → World → Prop) : Option St → Prop
  | some σ' => ∀ g' a' w', Inv c.N m0 w0 g' σ' a' w' → R a' w'
  | none => False
theorem regQs (R : Act → World → Prop) : regQ c m0 w0 R (some σ') = ∀ g' a' w', Inv c.N m0 w0 g' σ' a' w' → R a' w' := rfl
def appPre (c : Cx) (ops : List Oper) (k d : Nat) (xs xx : Operand) (T : TypeId) (σ : St) : Option (St × Nat × List (List D) × Nat) :=
  match c.opsE ops 0 (ops.take k) σ with
  | some σ1 => match σ1.ev xs, σ1.ev xx, c.Γ T with
    | .sl _ [] .ex, .d (.sl k' rows), some ti => match ti.elem with
      | some e => match c.Γ e with
        | some j => if k' = j.size ∧ rows ≠ [] ∧ rows.length ≤ 140737488355328 ∧ rows.length * j.bytes ≤ 140737488355328 ∧ d < c.N ∧ startB [d] σ1 = true then some (σ1, k', rows, j.size) else none
        | none => none
      | none => none
    | _, _, _ => none
  | none => none
def appSt (σ1 : St) (d k : Nat) (rows : List (List D)) (m : Nat) : St := { σ1 with tmps := (d, .bs d 0 rows.length k) :: σ1.tmps, boxes := (d, rows.flatten.map X.d ++ List.replicate m (.d .top)) :: σ1.boxes }
def appK (c : Cx) (id : Nat) (ops : List Oper) (k d : Nat) (m0 : Nat → Nat → Prop) (w0 : Base) (R : Act → World → Prop) : Option (St × Nat × List (List D) × Nat) → Prop
  | some (σ1, _, rows, j) => ∀ m, regQ c m0 w0 R ((c.opsE ops (k + 1) (ops.drop (k + 1)) (appSt σ1 d j rows m)).map (c.close id))
  | none => False
theorem appKs (R : Act → World → Prop) {id : Nat} {ops : List Oper} {k d k' j : Nat} {σ1 : St} {rows : List (List D)} : appK c id ops k d m0 w0 R (some (σ1, k', rows, j)) = ∀ m, regQ c m0 w0 R ((c.opsE ops (k + 1) (ops.drop (k + 1)) (appSt σ1 d j rows m)).map (c.close id)) := rfl
theorem am_appB (hc : CxOk P c) (k d : Nat) {id : Nat} {ops : Array Oper} {xs xx : Operand} {T : TypeId} {o : Oper} {cc : Call} (hat : ops.toList[k]? = some o) (hop : o.op = .call cc) (hcal : cc.callee = .builtin .append) (hargs : cc.args = #[xs, xx]) (htys : cc.argTypes = #[T, T]) (hdst : o.dst = some d) (hg : o.guard = none)
    (hno : allocs (ops.toList.take k) = []) (hno2 : allocs (ops.toList.drop (k + 1)) = []) (hs0 : startB [] σ = true) (hal : w0.out d = none) (I : Inv c.N m0 w0 g σ a w) {Q : Exit → Act → World → Prop}
    (hQ : appK c id ops.toList k d m0 w0 (fun a' w' => Q .normal a' w') (appPre c ops.toList k d xs xx T σ)) : (Code.region id ops false).wpIn Fence.wide 0 P Q a w := by
  have hsplit : ops.toList = ops.toList.take k ++ (o :: ops.toList.drop (k + 1)) := by
    have hk : k < ops.toList.length := (List.getElem?_eq_some_iff.1 hat).1
    have he : ops.toList[k] = o := (List.getElem?_eq_some_iff.1 hat).2
    rw [← he, ← List.drop_eq_getElem_cons hk, List.take_append_drop]
  cases h : appPre c ops.toList k d xs xx T σ with
  | none => rw [h] at hQ; exact hQ.elim
  | some r =>
    obtain ⟨σ1, k', rows, js⟩ := r
    rw [h, appKs] at hQ
    unfold appPre at h
    split at h
    · rename_i σ1' hpre
      split at h
      · rename_i k0 kx rowsx ti hxs hxx hT
        split at h
        · rename_i e he
          split at h
          · rename_i j hj
            split at h
            · rename_i hcond
              obtain ⟨rfl, c1, c2, c3, c4, hs1⟩ := hcond
              simp only [Option.some.injEq, Prod.mk.injEq] at h
              obtain ⟨rfl, _, rfl, rfl⟩ := h
              obtain ⟨hnd, hpl⟩ := start_plain hs0
              obtain ⟨I1, _, hus⟩ := I.start (al := []) (fun x hx => by cases hx) hs0 hpl
              refine wpIn_region_list ?_
              have hpre' := hpre
              generalize ops.toList.take k = pre at *
              generalize ops.toList.drop (k + 1) = post at *
              rw [hsplit]
              refine wpList_app pre a w (opsE_sound (.inl rfl) hc ops pre 0 σ σ1' _ a w hpre I1 (by rw [hno]; exact List.nodup_nil) (by rw [hno]; intro d h; cases h) (fun j _ => hus j) fun g' a' w' I' => ?_)
              show wpListIn Fence.wide 0 P ops Q (o :: post) a' w'
              obtain ⟨_, hpl1⟩ := start_plain hs1
              obtain ⟨I2, hal2, hus2⟩ := I'.start (al := [d]) (fun x hx => by rw [List.mem_singleton.1 hx]; exact hal) hs1 hpl1
              obtain ⟨hb0, hm0⟩ := hal2 d (by simp)
              have hE := ev_rel I2
              have rs := hE xs
              have rx := hE xx
              rw [hxs] at rs
              rw [hxx] at rx
              obtain ⟨m, v, w2, hrun, I3⟩ := run_append_box hc (ty := o.type) hT he hj c1 c2 c3 I2 rs rx c4 hb0 hm0
              unfold wpListIn
              rw [if_pos (by simp [Region.wanted, hg])]
              obtain ⟨dst, op, ty, pos, after, guard⟩ := o
              obtain ⟨callee, args, argTypes⟩ := cc
              simp only at hop hcal hargs htys hdst hg hrun
              subst hop hcal hargs htys hdst
              refine wp_val (.inl rfl) (v := v) (w' := w2) (by simp [execOp, resolve, invoke, builtin, hrun]) ?_
              have hQm := hQ m
              cases hpost : c.opsE ops.toList (k + 1) post (appSt σ1' d j.size rowsx m) with
              | none => rw [hpost] at hQm; exact hQm.elim
              | some σ2 =>
                rw [hpost] at hQm
                simp only [Option.map_some, regQs] at hQm
                refine opsE_sound (.inl rfl) hc ops post (k + 1) _ σ2 _ _ w2 hpost I3 (by rw [hno2]; exact List.nodup_nil) (by rw [hno2]; intro d h; cases h) (fun j _ => hus2 j) fun g5 a5 w5 I5 => ?_
                obtain ⟨g6, I6⟩ := I5.close id
                exact hQm g6 a5 w5 I6
            · cases h
          · cases h
        · cases h
      · cases h
    · cases h
theorem freeze_at (hc : CxOk P c) {b t : Nat} {cs : List X} {ds : List D} (hb : getA σ.boxes b = some cs) (hd : dataL cs = some ds) (ht : getA σ.tmps t = some (.loc b 0)) (hal : w0.out b = none) (I : Inv c.N m0 w0 g σ a w) (ha : a.defers = w0.df) :
    ∃ g', Inv c.N m0 w0 g' (restT [b] ((t, .d (.dat ds.length [ds] 0 0)) :: keepT [b] σ.tmps) σ) a w := I.freeze ha hb hd ht hal
end
end Go.Proofs.YtkldmnladkcfeaaGreatDoor
namespace Go.Proofs.YtkldmnladkcfeaaGreatDoor
open Go.RowKit
set_option linter.unusedSimpArgs false
set_option linter.unusedVariables false
set_option linter.unusedSectionVars false
section
variable {P : Program} {c : Cx} {m0 : Nat → Nat → Prop} {w0 : Base} {g : Gh} {σ σ' : St} {a : Act} {w : World}
theorem Inv.freezeT (I : Inv c.N m0 w0 g σ a w) (ha : a.defers = w0.df) {b n k t : Nat} {tail : List X} {rows : List (List D)}
    (hb : getA σ.boxes b = some (rows.flatten.map X.d ++ tail)) (ht : getA σ.tmps t = some (.bs b 0 n k)) (hall : ∀ r ∈ rows, r.length = k) (hn : rows.length = n) (hlim : n ≤ 140737488355328) (hal : w0.out b = none) :
    ∃ g', Inv c.N m0 w0 g' (restT [b] ((t, .d (.sl k rows)) :: keepT [b] σ.tmps) σ) a w := by
  obtain ⟨blk, cap, hblk, hv, hcap⟩ := I.tmps t _ ht
  obtain ⟨I1, hnone⟩ := I.forget ha [b] (fun d hd => by rw [List.mem_singleton.1 hd]; exact hal)
  obtain ⟨cv, ty, hh, hs, hc⟩ := I.boxes b _ hb blk hblk
  have hbb := I.boxb b blk hblk
  have hbox : ∀ i b', (startG [b] g).box i = some b' → i ≠ b ∧ g.box i = some b' := fun i b' h => by
    simp only [startG] at h
    split at h
    · cases h
    · rename_i hn
      exact ⟨fun e => hn (by subst e; simp), h⟩
  have e : Tr (startG [b] g) w σ.toks { startG [b] g with imm := fun k o => g.imm k o ∨ k = blk } w σ.toks :=
    ⟨⟨fun _ _ h => .inl h, fun _ _ _ => rfl⟩, fun _ _ h => h, fun _ h => h, fun t _ h => ⟨h, fun b' hb' => ⟨hb', fun x hx => hx.resolve_right fun e => (I.tokb t b' hb').2.2 b (by rw [hblk, e]), rfl⟩⟩⟩
  have hsz : rows.flatten.length ≤ cv.size := by
    have : cv.size = (rows.flatten.map X.d ++ tail).length := hs
    rw [List.length_append, List.length_map] at this; omega
  have hget : ∀ (j : Nat) (d : D) (u : Value), rows.flatten[j]? = some d → cv[j]? = some u → u.oneCell' = true ∧ Rel (fun k o => g.imm k o ∨ k = blk) w d u := fun j d u h1 h2 => by
    have hj : j < rows.flatten.length := (List.getElem?_eq_some_iff.1 h1).1
    obtain ⟨p1, p2⟩ := hc j (.d d) u (by rw [List.getElem?_append, List.length_map, if_pos hj, List.getElem?_map, h1]; rfl) h2
    exact ⟨p1, Rel.ext ⟨fun _ _ h => .inl h, fun _ _ _ => rfl⟩ _ _ p2⟩
  have hrows : RelRows (fun k o => g.imm k o ∨ k = blk) w rows blk 0 k := by
    refine rows_of (xs := cv.toList.take rows.flatten.length) hall (RelL.of (by rw [List.length_take, Array.length_toList]; exact Nat.min_eq_left hsz) fun j d u h1 h2 => ?_) fun j u h => ?_
    · rw [List.getElem?_take] at h2
      split at h2
      · exact (hget j d u h1 (by simpa using h2)).2
      · cases h2
    · rw [List.getElem?_take] at h
      split at h
      · rename_i hj
        have h' : cv[j]? = some u := by simpa using h
        refine ⟨.inr rfl, ?_, (hget j _ u (List.getElem?_eq_getElem hj) h').1⟩
        have := cellAt blk (0 + j) 0 cv ty hh
        simpa [h'] using this
      · cases h
  refine ⟨{ startG [b] g with imm := fun k o => g.imm k o ∨ k = blk }, ?_⟩
  refine ⟨I1.below, I1.size, I1.defers, fun k o h => h.elim (I1.lt k o) (fun e => by subst e; exact hbb.2.1), fun k o h => .inl (I1.old k o h), fun k o h => h.elim (I1.new k o) (fun e => by subst e; exact .inr hbb.1), fun t' x hx => ?_, fun i b' h => ?_, I1.boxi, I1.tokb, I1.toki, fun b' cs' h blk' hblk' => BoxAt.tr e (I1.boxes b' cs' h blk' hblk') rfl, I1.out, I1.fz, I1.maps, I1.cells⟩
  · simp only [restT, getA] at hx
    split at hx
    · rename_i ht'
      subst ht'
      simp only [Option.some.injEq] at hx
      subst hx
      rw [hv]
      simp only [RelX, Rel]
      exact ⟨by rw [hn]; exact hlim, _, cap, by rw [hn], by rw [hn]; exact hcap, .inr ⟨blk, 0, rfl, hrows⟩⟩
    · exact RelX.tr e (I1.tmps t' x hx)
  · obtain ⟨h1, h2⟩ := hbox i b' h
    have := I.boxb i b' h2
    exact ⟨this.1, this.2.1, fun o ho => ho.elim (this.2.2 o) fun e => h1 (I.boxi i b b' h2 (by rw [hblk, e]))⟩
theorem freezeT_at (hc : CxOk P c) {b n k t : Nat} {tail : List X} {rows : List (List D)}
    (hb : getA σ.boxes b = some (rows.flatten.map X.d ++ tail)) (ht : getA σ.tmps t = some (.bs b 0 n k)) (hall : ∀ r ∈ rows, r.length = k) (hn : rows.length = n) (hlim : n ≤ 140737488355328) (hal : w0.out b = none) (I : Inv c.N m0 w0 g σ a w) (ha : a.defers = w0.df) :
    ∃ g', Inv c.N m0 w0 g' (restT [b] ((t, .d (.sl k rows)) :: keepT [b] σ.tmps) σ) a w := I.freezeT ha hb ht hall hn hlim hal
theorem am_cutF {α : Type} (F : α → St) (hc : CxOk P c) {Q : Exit → Act → World → Prop} (k : Nat) (cd : Code) (h1 : canCut k cd = true) (h2 : drawsB c.diff c.md c.pq (cutA k cd) = true) (h3 : noRF (cutA k cd) = true) (h4 : ∀ d ∈ allocsC (cutA k cd), w0.out d = none) (σ : St) (g : Gh) (a : Act) (w : World) (I : Inv c.N m0 w0 g σ a w)
    (h : ∃ b, c.code (cutA k cd) σ = some (.normal, F b)) (hQ : ∀ b g' a' w', Inv c.N m0 w0 g' (F b) a' w' → (cutB k cd).wpIn Fence.wide 0 P Q a' w') : cd.wpIn Fence.wide 0 P Q a w := by
  refine am_cut hc k cd h1 h2 h3 h4 σ g a w I ?_
  obtain ⟨b, hb⟩ := h
  rw [hb, codeK_some]
  exact fun g' a' w' I' => hQ b g' a' w' I'
end
end Go.Proofs.YtkldmnladkcfeaaGreatDoor
