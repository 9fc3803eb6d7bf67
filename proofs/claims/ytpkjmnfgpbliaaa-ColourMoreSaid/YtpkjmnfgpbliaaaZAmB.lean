/-
  The plain machine for whole pieces of code. For any program. No program here.
-/
import Derived.Test.YtpkjmnfgpbliaaaZAmA
import Derived.Scope
import Derived.LoopN
namespace Go.Proofs.Ytpkjmnfgpbliaaa
open Go.RowKit
set_option linter.unusedSimpArgs false
set_option linter.unusedVariables false
set_option linter.unusedSectionVars false

/-- What a run of the plain machine goes by: the types, the functions that are called, how many temporaries there are, how many rounds a loop may have, and what is kept behind each region. -/
structure Cx where
  Γ : Tys
  eqs : List (TypeId × Nat)
  Δ : Nat → List D → Option D
  N : Nat
  F : Nat
  kp : Nat → List (Nat × Option Nat)
  kb : List (Nat × Nat × Nat)

def Cx.step (c : Cx) (ops : List Oper) (i : Nat) (o : Oper) (σ : St) : Option St :=
  match aWanted ops σ o with
  | some true => match aop c.Γ c.eqs c.Δ o.op σ.ev σ.boxes σ.toks with
    | some r => σ.put c.N i o.dst r
    | none => none
  | some false => σ.put c.N i o.dst .skip
  | none => none
def Cx.ops (c : Cx) (ops : List Oper) : Nat → List Oper → St → Option St
  | _, [], σ => some σ
  | i, o :: t, σ => match c.step ops i o σ with
    | some σ' => c.ops ops (i + 1) t σ'
    | none => none
def allocDst (o : Oper) : Option Nat := match o.op with | .alloc _ => o.dst | .box _ _ => o.dst | _ => none
def allocs : List Oper → List Nat
  | [] => []
  | o :: t => match allocDst o with
    | some d => d :: allocs t
    | none => allocs t
def nodupB : List Nat → Bool
  | [] => true
  | x :: t => !t.contains x && nodupB t
def X.plain (al : List Nat) : X → Bool
  | .loc b _ => !al.contains b
  | .sl _ _ (.tok t) => decide (t < 1000000)
  | _ => true
def startB (al : List Nat) (σ : St) : Bool := nodupB al && σ.tmps.all (fun p => p.2.plain al) && σ.boxes.all (fun p => !al.contains p.1 && p.2.all (fun x => x.plain al))

def X.strip : X → X
  | .sl k rows _ => .d (.sl k rows)
  | .agz cs => .d (.agg (cs.map softD))
  | x => x
/-- A slice variable is kept, its token being named anew. -/
def closeX (k name : Nat) (x : X) (av nw : List Nat) : X × List Nat × List Nat :=
  match x with
  | .sl k' rows .ex => if (k' == k || rows.isEmpty) && !nw.contains name then (.sl k rows (.tok name), av, name :: nw) else (.d (.sl k' rows), av, nw)
  | .sl k' rows (.tok t) => if (k' == k && av.any (fun z => z == t)) && !nw.contains name then (.sl k rows (.tok name), av.filter (fun z => z != t), name :: nw) else (.d (.sl k' rows), av, nw)
  | x => (x, av, nw)
def closeT (tmps : List (Nat × X)) : List (Nat × Option Nat) → List Nat → List Nat → List (Nat × X) × List Nat × List Nat
  | [], av, nw => ([], av, nw)
  | (u, sv) :: t, av, nw => match getA tmps u with
    | none => closeT tmps t av nw
    | some x => match sv with
      | none => let r := closeT tmps t av nw
        ((u, x.strip) :: r.1, r.2)
      | some k => let y := closeX k u x av nw
        let r := closeT tmps t y.2.1 y.2.2
        ((u, y.1) :: r.1, r.2)
def annOf (kb : List (Nat × Nat × Nat)) (b off : Nat) : Option Nat :=
  match kb with
  | [] => none
  | (b', o', k) :: t => if b = b' ∧ off = o' then some k else annOf t b off
def closeC (kb : List (Nat × Nat × Nat)) (b : Nat) : Nat → List X → List Nat → List Nat → List X × List Nat × List Nat
  | _, [], av, nw => ([], av, nw)
  | off, x :: t, av, nw => match annOf kb b off with
    | none => let r := closeC kb b (off + 1) t av nw
      (x.strip :: r.1, r.2)
    | some k => let y := closeX k (100000 + 100 * b + off) x av nw
      let r := closeC kb b (off + 1) t y.2.1 y.2.2
      (y.1 :: r.1, r.2)
def closeB (kb : List (Nat × Nat × Nat)) (boxes : List (Nat × List X)) : List Nat → List Nat → List Nat → List (Nat × List X) × List Nat × List Nat
  | [], av, nw => ([], av, nw)
  | b :: t, av, nw => match getA boxes b with
    | none => closeB kb boxes t av nw
    | some cs => let y := closeC kb b 0 cs av nw
      let r := closeB kb boxes t y.2.1 y.2.2
      ((b, y.1) :: r.1, r.2)
/-- The variables whose addresses are kept. -/
def locsOf : List (Nat × X) → List Nat
  | [] => []
  | (_, .loc b _) :: t => if (locsOf t).contains b then locsOf t else b :: locsOf t
  | _ :: t => locsOf t
def Cx.close (c : Cx) (id : Nat) (σ : St) : St :=
  let r := closeT σ.tmps (c.kp id) σ.toks []
  let q := closeB c.kb σ.boxes (locsOf r.1) r.2.1 r.2.2
  { tmps := r.1, boxes := q.1, toks := q.2.2 }
def Cx.region (c : Cx) (id : Nat) (ops : List Oper) (σ : St) : Option St :=
  if startB (allocs ops) σ then (match c.ops ops 0 ops σ with
    | some σ' => some (c.close id σ')
    | none => none) else none

inductive AEx where
  | normal
  | exit (id : Nat)
  | ret
def iter (f : St → Option (AEx × St)) : Nat → St → Option (AEx × St)
  | 0, _ => none
  | n + 1, σ => match f σ with
    | some (.normal, σ') => iter f n σ'
    | r => r
def Cx.code (c : Cx) : Code → St → Option (AEx × St)
  | .skip, σ => some (.normal, σ)
  | .label _, σ => some (.normal, σ)
  | .region id ops _, σ => match c.region id ops.toList σ with
    | some σ' => some (.normal, σ')
    | none => none
  | .seq a b, σ => match c.code a σ with
    | some (.normal, σ') => c.code b σ'
    | r => r
  | .cond x a b, σ => match σ.ev x with
    | .d (.v (.bool t)) => match t with
      | true => c.code a σ
      | false => c.code b σ
    | _ => none
  | .block id a, σ => match c.code a σ with
    | some (.exit j, σ') => if j = id then some (.normal, σ') else some (.exit j, σ')
    | r => r
  | .loop a, σ => iter (c.code a) c.F σ
  | .exit id, σ => some (.exit id, σ)
  | .scope a, σ => c.code a σ
  | .ret, σ => some (.ret, σ)
  | _, _ => none

section
variable {N : Nat} {m0 : Nat → Nat → Prop} {w0 : World} {g g' : Gh} {σ : St} {a : Act} {w : World} {base : Nat}

/-- How the tokens are named anew. -/
structure Cl (g : Gh) (toks : List Nat) (g' : Gh) (av nw : List Nat) : Prop where
  imm : g'.imm = g.imm
  box : g'.box = g.box
  used : ∀ s, g'.used s → s ∈ nw
  tok : ∀ s b, g'.tok s = some b → s ∈ nw ∧ ∃ t, g.tok t = some b ∧ t ∉ av
  inj : ∀ s t b, g'.tok s = some b → g'.tok t = some b → s = t
  sub : ∀ t ∈ av, t ∈ toks

theorem Tr.refl (g : Gh) (w : World) (toks : List Nat) : Tr g w toks g w toks := ⟨ExtM.refl _ _, fun _ _ h => h, fun _ h => h, fun t _ h => ⟨h, fun b hb => ⟨hb, fun _ h => h, rfl⟩⟩⟩
theorem Tr.trans {g g' g'' : Gh} {w w' w'' : World} {a b c : List Nat} (h : Tr g w a g' w' b) (k : Tr g' w' b g'' w'' c) : Tr g w a g'' w'' c :=
  ⟨h.ext.trans k.ext, fun i b x => k.box i b (h.box i b x), fun t x => k.used t (h.used t x), fun t x y => by
    obtain ⟨k1, k2⟩ := k.tok t (h.used t x) y
    obtain ⟨h1, h2⟩ := h.tok t x k1
    refine ⟨h1, fun b hb => ?_⟩
    obtain ⟨p1, p2, p3⟩ := h2 b hb
    obtain ⟨q1, q2, q3⟩ := k2 b p1
    exact ⟨q1, fun x hx => p2 x (q2 x hx), q3.trans p3⟩⟩

theorem strip_rel {toks nw : List Nat} {x : X} {v : Value} (hi : g'.imm = g.imm) (hb : g'.box = g.box) (h : RelX g w base toks x v) : RelX g' w base nw x.strip v := by
  cases x with
  | d y => simp only [X.strip, RelX] at h ⊢; rw [hi]; exact h
  | agz cs => simp only [X.strip, RelX] at h ⊢; rw [hi]; exact softA_rel h
  | loc b o => simp only [X.strip, RelX] at h ⊢; rw [hb]; exact h
  | sl k rows own =>
    have : Rel g.imm w (.sl k rows) v := by cases own <;> exact h.1
    simp only [X.strip, RelX]; rw [hi]; exact this

theorem closeX_rel (hinj : ∀ s t b, g.tok s = some b → g.tok t = some b → s = t) {toks : List Nat} (k name : Nat) (x : X) {av nw : List Nat} (C : Cl g toks g' av nw) :
    ∃ g'', Cl g toks g'' (closeX k name x av nw).2.1 (closeX k name x av nw).2.2 ∧ Tr g' w nw g'' w (closeX k name x av nw).2.2 ∧ ∀ v, RelX g w base toks x v → RelX g'' w base (closeX k name x av nw).2.2 (closeX k name x av nw).1 v := by
  cases x with
  | d y => exact ⟨g', C, Tr.refl _ _ _, fun v h => by simp only [closeX, RelX] at h ⊢; rw [C.imm]; exact h⟩
  | agz cs => exact ⟨g', C, Tr.refl _ _ _, fun v h => by simp only [closeX, RelX] at h ⊢; rw [C.imm]; exact h⟩
  | loc b o => exact ⟨g', C, Tr.refl _ _ _, fun v h => by simp only [closeX, RelX] at h ⊢; rw [C.box]; exact h⟩
  | sl k' rows own =>
    cases own with
    | ex =>
      simp only [closeX]
      split
      · rename_i hc
        simp only [Bool.and_eq_true, Bool.or_eq_true, beq_iff_eq, List.isEmpty_iff, Bool.not_eq_true', List.contains_eq_mem, decide_eq_false_iff_not] at hc
        obtain ⟨hk, hnm⟩ := hc
        refine ⟨{ g' with used := fun s => g'.used s ∨ s = name }, ⟨C.imm, C.box, fun s hs => ?_, fun s b hb => ?_, C.inj, C.sub⟩, ⟨⟨fun _ _ h => h, fun _ _ _ => rfl⟩, fun _ _ h => h, fun _ h => .inl h, fun s hs _ => ⟨C.used s hs, fun b hb => ⟨hb, fun _ h => h, rfl⟩⟩⟩, fun v h => ⟨?_, .inr rfl, fun _ => ?_⟩⟩
        · rcases hs with hs | hs
          · exact List.mem_cons_of_mem _ (C.used s hs)
          · rw [hs]; simp
        · exact ⟨List.mem_cons_of_mem _ (C.tok s b hb).1, (C.tok s b hb).2⟩
        · have h1 := h.1
          simp only [Rel] at h1 ⊢
          obtain ⟨l0, ad, c, hv, hlc, hr⟩ := h1
          refine ⟨l0, ad, c, hv, hlc, hr.imp id ?_⟩
          rintro ⟨b, o, h2, h3⟩
          refine ⟨b, o, h2, ?_⟩
          rcases hk with rfl | rfl
          · rw [C.imm]; exact h3
          · simp [RelRows]
        · obtain ⟨ad, hv⟩ := h.2
          exact ⟨ad, rows.length, hv, .inl rfl⟩
      · exact ⟨g', C, Tr.refl _ _ _, fun v h => by simp only [RelX]; rw [C.imm]; exact h.1⟩
    | tok t =>
      simp only [closeX]
      split
      · rename_i hc
        simp only [Bool.and_eq_true, beq_iff_eq, List.any_eq_true, Bool.not_eq_true', List.contains_eq_mem, decide_eq_false_iff_not] at hc
        obtain ⟨⟨hk, hav⟩, hnm⟩ := hc
        subst hk
        have hta : t ∈ av := by obtain ⟨z, hz, hz2⟩ := hav; rw [← hz2]; exact hz
        have hnt : ∀ b, g'.tok name ≠ some b := fun b h' => hnm (C.tok name b h').1
        refine ⟨{ g' with tok := fun s => if s = name then g.tok t else g'.tok s, used := fun s => g'.used s ∨ s = name }, ⟨C.imm, C.box, fun s hs => ?_, fun s b hb => ?_, fun s u b hs hu => ?_, fun z hz => C.sub z (List.mem_filter.1 hz).1⟩, ⟨⟨fun _ _ h => h, fun _ _ _ => rfl⟩, fun _ _ h => h, fun _ h => .inl h, fun s hs _ => ⟨C.used s hs, fun b hb => ⟨?_, fun _ h => h, rfl⟩⟩⟩, fun v h => ⟨?_, .inr rfl, fun _ => ?_⟩⟩
        · rcases hs with hs | hs
          · exact List.mem_cons_of_mem _ (C.used s hs)
          · rw [hs]; simp
        · simp only at hb
          by_cases hsn : s = name
          · rw [if_pos hsn] at hb
            refine ⟨by rw [hsn]; simp, t, hb, fun hm => ?_⟩
            have := (List.mem_filter.1 hm).2
            simp at this
          · rw [if_neg hsn] at hb
            obtain ⟨c1, t', c2, c3⟩ := C.tok s b hb
            exact ⟨List.mem_cons_of_mem _ c1, t', c2, fun hm => c3 (List.mem_filter.1 hm).1⟩
        · simp only at hs hu
          by_cases h1 : s = name <;> by_cases h2 : u = name
          · rw [h1, h2]
          · rw [if_pos h1] at hs; rw [if_neg h2] at hu
            obtain ⟨_, t', c2, c3⟩ := C.tok u b hu
            exact absurd (hinj t' t b c2 hs ▸ hta) c3
          · rw [if_neg h1] at hs; rw [if_pos h2] at hu
            obtain ⟨_, t', c2, c3⟩ := C.tok s b hs
            exact absurd (hinj t' t b c2 hu ▸ hta) c3
          · rw [if_neg h1] at hs; rw [if_neg h2] at hu
            exact C.inj s u b hs hu
        · show (if s = name then g.tok t else g'.tok s) = some b
          rw [if_neg (fun e : s = name => hnt b (by rw [← e]; exact hb))]; exact hb
        · rw [C.imm]; exact h.1
        · obtain ⟨ad, c, hv, hh⟩ := h.2.2 (C.sub t hta)
          refine ⟨ad, c, hv, hh.imp id ?_⟩
          rintro ⟨b, o, q1, q2, q3, q4, q5⟩
          exact ⟨b, o, by simpa using q1, q2, q3, by rw [C.imm]; exact q4, q5⟩
      · exact ⟨g', C, Tr.refl _ _ _, fun v h => by simp only [RelX]; rw [C.imm]; exact h.1⟩

theorem closeT_rel (hinj : ∀ s t b, g.tok s = some b → g.tok t = some b → s = t) {toks : List Nat} {tmps : List (Nat × X)} {f : Nat → Value} (ht : ∀ t x, getA tmps t = some x → RelX g w base toks x (f t)) : ∀ (l : List (Nat × Option Nat)) (g' : Gh) (av nw : List Nat), Cl g toks g' av nw →
    ∃ g'', Cl g toks g'' (closeT tmps l av nw).2.1 (closeT tmps l av nw).2.2 ∧ Tr g' w nw g'' w (closeT tmps l av nw).2.2 ∧ ∀ u y, getA (closeT tmps l av nw).1 u = some y → RelX g'' w base (closeT tmps l av nw).2.2 y (f u)
  | [], g', av, nw, C => ⟨g', C, Tr.refl _ _ _, fun u y h => by cases h⟩
  | (u, sv) :: t, g', av, nw, C => by
    simp only [closeT]
    cases hu : getA tmps u with
    | none => exact closeT_rel hinj ht t g' av nw C
    | some x =>
      cases sv with
      | none =>
        obtain ⟨g'', C2, T2, h2⟩ := closeT_rel hinj ht t g' av nw C
        refine ⟨g'', C2, T2, fun u' y h => ?_⟩
        simp only [getA] at h
        by_cases e : u' = u
        · rw [if_pos e] at h; cases h; subst e
          exact strip_rel C2.imm C2.box (ht _ _ hu)
        · rw [if_neg e] at h; exact h2 u' y h
      | some k =>
        obtain ⟨g1, C1, T1, h1⟩ := closeX_rel (w := w) (base := base) hinj k u x C
        obtain ⟨g'', C2, T2, h2⟩ := closeT_rel hinj ht t g1 _ _ C1
        refine ⟨g'', C2, T1.trans T2, fun u' y h => ?_⟩
        simp only [getA] at h
        by_cases e : u' = u
        · rw [if_pos e] at h; cases h; subst e
          exact RelX.tr T2 (h1 _ (ht _ _ hu))
        · rw [if_neg e] at h; exact h2 u' y h
theorem closeC_rel (hinj : ∀ s t b, g.tok s = some b → g.tok t = some b → s = t) {toks : List Nat} (kb : List (Nat × Nat × Nat)) (b : Nat) : ∀ (cs : List X) (off : Nat) (g' : Gh) (av nw : List Nat), Cl g toks g' av nw →
    ∃ g'', Cl g toks g'' (closeC kb b off cs av nw).2.1 (closeC kb b off cs av nw).2.2 ∧ Tr g' w nw g'' w (closeC kb b off cs av nw).2.2 ∧ (closeC kb b off cs av nw).1.length = cs.length ∧
      ∀ vs : List Value, (∀ (j : Nat) (x : X) (v : Value), cs[j]? = some x → vs[j]? = some v → RelX g w base toks x v) → ∀ (j : Nat) (x : X) (v : Value), (closeC kb b off cs av nw).1[j]? = some x → vs[j]? = some v → RelX g'' w base (closeC kb b off cs av nw).2.2 x v
  | [], off, g', av, nw, C => ⟨g', C, Tr.refl _ _ _, rfl, fun vs _ j x v h => by simp [closeC] at h⟩
  | x :: t, off, g', av, nw, C => by
    simp only [closeC]
    cases annOf kb b off with
    | none =>
      obtain ⟨g'', C2, T2, l2, h2⟩ := closeC_rel hinj kb b t (off + 1) g' av nw C
      refine ⟨g'', C2, T2, by simp [l2], fun vs hr j x' v' h h' => ?_⟩
      cases vs with
      | nil => simp at h'
      | cons v vt =>
        cases j with
        | zero => simp at h h'; subst h; subst h'; exact strip_rel C2.imm C2.box (hr 0 x v rfl rfl)
        | succ j => exact h2 vt (fun j x' v' h1 h2 => hr (j + 1) x' v' (by simpa using h1) (by simpa using h2)) j x' v' (by simpa using h) (by simpa using h')
    | some k =>
      obtain ⟨g1, C1, T1, h1⟩ := closeX_rel (w := w) (base := base) hinj k (100000 + 100 * b + off) x C
      obtain ⟨g'', C2, T2, l2, h2⟩ := closeC_rel hinj kb b t (off + 1) g1 _ _ C1
      refine ⟨g'', C2, T1.trans T2, by simp [l2], fun vs hr j x' v' h h' => ?_⟩
      cases vs with
      | nil => simp at h'
      | cons v vt =>
        cases j with
        | zero => simp at h h'; subst h; subst h'; exact RelX.tr T2 (h1 _ (hr 0 x v rfl rfl))
        | succ j => exact h2 vt (fun j x' v' h1 h2 => hr (j + 1) x' v' (by simpa using h1) (by simpa using h2)) j x' v' (by simpa using h) (by simpa using h')

theorem closeB_rel (hinj : ∀ s t b, g.tok s = some b → g.tok t = some b → s = t) {toks : List Nat} (kb : List (Nat × Nat × Nat)) {boxes : List (Nat × List X)} (hB : BoxesAt g w base toks boxes) : ∀ (l : List Nat) (g' : Gh) (av nw : List Nat), Cl g toks g' av nw →
    ∃ g'', Cl g toks g'' (closeB kb boxes l av nw).2.1 (closeB kb boxes l av nw).2.2 ∧ Tr g' w nw g'' w (closeB kb boxes l av nw).2.2 ∧ BoxesAt g'' w base (closeB kb boxes l av nw).2.2 (closeB kb boxes l av nw).1
  | [], g', av, nw, C => ⟨g', C, Tr.refl _ _ _, fun b cs h => by cases h⟩
  | b :: t, g', av, nw, C => by
    simp only [closeB]
    cases hb : getA boxes b with
    | none => exact closeB_rel hinj kb hB t g' av nw C
    | some cs =>
      cases hg : g.box b with
      | none =>
        obtain ⟨g1, C1, T1, _⟩ := closeC_rel (w := w) (base := base) hinj kb b cs 0 g' av nw C
        obtain ⟨g'', C2, T2, h2⟩ := closeB_rel hinj kb hB t g1 _ _ C1
        refine ⟨g'', C2, T1.trans T2, fun b' cs' h blk hblk => ?_⟩
        simp only [getA] at h
        by_cases e : b' = b
        · rw [e, C2.box, hg] at hblk; cases hblk
        · rw [if_neg e] at h; exact h2 b' cs' h blk hblk
      | some blk0 =>
        obtain ⟨vs, ty, k1, k2, k3⟩ := hB b cs hb blk0 hg
        obtain ⟨g1, C1, T1, l1, h1⟩ := closeC_rel (w := w) (base := base) hinj kb b cs 0 g' av nw C
        have h1 := h1 vs.toList (fun j x v q1 q2 => (k3 j x v q1 (by simpa using q2)).2)
        obtain ⟨g'', C2, T2, h2⟩ := closeB_rel hinj kb hB t g1 _ _ C1
        refine ⟨g'', C2, T1.trans T2, fun b' cs' h blk hblk => ?_⟩
        simp only [getA] at h
        by_cases e : b' = b
        · rw [e, C2.box, hg] at hblk; cases hblk
          rw [if_pos e] at h; cases h
          refine ⟨vs, ty, k1, by rw [l1]; exact k2, fun j x v q1 q2 => ?_⟩
          have hj : j < cs.length := by rw [← l1]; exact (List.getElem?_eq_some_iff.1 q1).1
          exact ⟨(k3 j cs[j] v (List.getElem?_eq_getElem hj) q2).1, RelX.tr T2 (h1 j x v q1 (by simpa using q2))⟩
        · rw [if_neg e] at h; exact h2 b' cs' h blk hblk
end
end Go.Proofs.Ytpkjmnfgpbliaaa
namespace Go.Proofs.Ytpkjmnfgpbliaaa
open Go.RowKit
set_option linter.unusedSimpArgs false
set_option linter.unusedVariables false
set_option linter.unusedSectionVars false

/-- What an operation waits for is done. -/
def DepsD (o : Oper) (listed : Array Bool) : Prop := ∀ e ∈ o.after.toList, Region.binds .any e = true → listed.getD e.on false = true
def DownD (ops : Array Oper) (listed : Array Bool) : Prop := ∀ i o, ops[i]? = some o → listed.getD i false = true → DepsD o listed
theorem getD_setD (l : Array Bool) (i j : Nat) (d : Bool) (hi : i < l.size) : (l.setIfInBounds i true).getD j d = if j = i then true else l.getD j d := by
  simp only [Array.getD_eq_getD_getElem?, Array.getElem?_setIfInBounds]
  by_cases h : i = j
  · subst h; simp [hi]
  · simp [h, show ¬ j = i from fun e => h e.symm]
theorem getD_tf {l : Array Bool} {i : Nat} (hi : i < l.size) : l.getD i true = l.getD i false := by simp [Array.getD_eq_getD_getElem?, hi]
theorem mem_readyD {ops : Array Oper} {listed : Array Bool} {i : Nat} : i ∈ Region.ready .any ops listed ↔ ∃ o, ops[i]? = some o ∧ listed.getD i true = false ∧ DepsD o listed := by
  unfold Region.ready DepsD
  simp only [List.mem_filter, List.mem_range, Bool.and_eq_true, Bool.not_eq_true']
  constructor
  · rintro ⟨h1, h2, h3⟩
    refine ⟨ops[i], by simp [h1], h2, ?_⟩
    simp only [Array.getElem?_eq_getElem h1, Option.map_some, Option.getD_some, Array.all_eq_true] at h3
    intro e he hb
    obtain ⟨k, hk, rfl⟩ := List.getElem_of_mem he
    have := h3 k (by simpa using hk)
    simp only [Array.getElem_toList] at hb ⊢
    simpa [hb] using this
  · rintro ⟨o, h1, h2, h3⟩
    obtain ⟨hi, rfl⟩ := Array.getElem?_eq_some_iff.1 h1
    refine ⟨hi, h2, ?_⟩
    simp only [h1, Option.map_some, Option.getD_some, Array.all_eq_true]
    intro k hk
    have := h3 (ops[i].after[k]) (by simp)
    by_cases hb : Region.binds .any (ops[i].after[k]) = true
    · simp [this hb]
    · simp [hb]

/-- Whatever order is drawn: what holds of what is done so far. -/
theorem any_sound {P : Program} {ops : Array Oper} {Q : Exit → Act → World → Prop} (J : Array Bool → Act → World → Prop) (hdep : ∀ (i : Nat) (o : Oper), ops[i]? = some o → ∀ e ∈ o.after.toList, Region.binds .any e = true → e.on < i)
    (hstep : ∀ (listed : Array Bool) (i : Nat) (o : Oper) (a : Act) (w : World), listed.size = ops.size → DownD ops listed → ops[i]? = some o → listed.getD i true = false → DepsD o listed → J listed a w → ∀ K : Act → World → Prop, (∀ a' w', J (listed.setIfInBounds i true) a' w' → K a' w') → wpOp P ops Q i K a w)
    (hend : ∀ (listed : Array Bool) (a : Act) (w : World), listed.size = ops.size → (∀ i, i < ops.size → listed.getD i true = true) → J listed a w → Q .normal a w) :
    ∀ (fuel : Nat) (listed : Array Bool) (a : Act) (w : World), listed.size = ops.size → DownD ops listed → listed.toList.count false ≤ fuel → J listed a w → wpAny P .any ops Q fuel listed a w := by
  have hall : ∀ listed : Array Bool, listed.size = ops.size → Region.ready .any ops listed = [] → ∀ i, i < ops.size → listed.getD i true = true := by
    intro listed hs hr i
    induction i using Nat.strongRecOn with
    | ind i ihi =>
      intro hi
      by_cases hli : listed.getD i true = true
      · exact hli
      · exfalso
        have hm : i ∈ Region.ready .any ops listed := mem_readyD.2 ⟨ops[i], by simp [hi], by simpa using hli, fun e he hb => by
          have h1 := hdep i ops[i] (by simp [hi]) e he hb
          have h2 := ihi e.on h1 (by omega)
          rw [← getD_tf (by omega)]; exact h2⟩
        rw [hr] at hm; cases hm
  intro fuel
  induction fuel with
  | zero =>
    intro listed a w hs hd hc hJ
    have hnf : ∀ i, i < ops.size → listed.getD i true = true := by
      intro i hi
      by_cases hli : listed.getD i true = true
      · exact hli
      · exfalso
        have : listed[i]'(by omega) = false := by simpa [Array.getD_eq_getD_getElem?, show i < listed.size by omega] using hli
        have hp : 0 < listed.toList.count false := List.count_pos_iff.2 (by rw [← this]; simp)
        omega
    refine ⟨List.eq_nil_iff_forall_not_mem.2 fun j hj => ?_, hend listed a w hs hnf hJ⟩
    obtain ⟨o, h1, h2, _⟩ := mem_readyD.1 hj
    rw [hnf j (Array.getElem?_eq_some_iff.1 h1).1] at h2; cases h2
  | succ fuel ih =>
    intro listed a w hs hd hc hJ
    refine ⟨fun hr => hend listed a w hs (hall listed hs hr) hJ, fun i hi => ?_⟩
    obtain ⟨o, ho, hli, hdd⟩ := mem_readyD.1 hi
    have his : i < listed.size := by rw [hs]; exact (Array.getElem?_eq_some_iff.1 ho).1
    refine hstep listed i o a w hs hd ho hli hdd hJ _ fun a' w' hJ' => ih _ a' w' (by simp [hs]) ?_ ?_ hJ'
    · intro j o' hj hl e he hb
      rw [getD_setD _ _ _ _ his] at hl ⊢
      by_cases h1 : e.on = i
      · rw [if_pos h1]
      · rw [if_neg h1]
        by_cases h2 : j = i
        · subst h2
          rw [ho] at hj; cases hj
          exact hdd e he hb
        · rw [if_neg h2] at hl
          exact hd j o' hj hl e he hb
    · have hf' : listed.toList[i]'(by simpa using his) = false := by simpa [Array.getD_eq_getD_getElem?, his] using hli
      have hp : 0 < listed.toList.count false := List.count_pos_iff.2 (by rw [← hf']; exact List.getElem_mem _)
      rw [Array.toList_setIfInBounds, List.count_set (by simpa using his)]
      simp [hf']
      simp at hp
      have := Array.count_pos_iff.2 (show false ∈ listed from by simpa using hp)
      have hc' := hc
      rw [Array.count_toList] at hc'
      omega

/-- The operations that one waits for, and those that these wait for, as bits. -/
def maskE (acc : List Nat) : List Edge → Nat → Nat
  | [], s => s
  | e :: t, s => maskE acc t (if Region.binds .any e then s ||| (2 ^ e.on ||| acc.getD e.on 0) else s)
def masksGo : List Nat → List Oper → List Nat
  | acc, [] => acc
  | acc, o :: t => masksGo (acc ++ [maskE acc o.after.toList 0]) t
def masks (ops : List Oper) : List Nat := masksGo [] ops
def edgesB : Nat → List Oper → Bool
  | _, [] => true
  | i, o :: t => o.after.toList.all (fun e => !Region.binds .any e || decide (e.on < i)) && edgesB (i + 1) t

theorem maskE_bit (acc : List Nat) (i : Nat) : ∀ (l : List Edge) (s : Nat), (maskE acc l s).testBit i = true → s.testBit i = true ∨ ∃ e ∈ l, Region.binds .any e = true ∧ (e.on = i ∨ (acc.getD e.on 0).testBit i = true)
  | [], s, h => .inl h
  | e :: t, s, h => by
    simp only [maskE] at h
    rcases maskE_bit acc i t _ h with h1 | ⟨e', h1, h2⟩
    · split at h1
      · rename_i hb
        simp only [Nat.testBit_or, Bool.or_eq_true] at h1
        rcases h1 with h1 | h1 | h1
        · exact .inl h1
        · refine .inr ⟨e, by simp, hb, .inl ?_⟩
          rw [Nat.testBit_two_pow] at h1; simpa using h1
        · exact .inr ⟨e, by simp, hb, .inr h1⟩
      · exact .inl h1
    · exact .inr ⟨e', by simp [h1], h2⟩
theorem masksGo_at : ∀ (l : List Oper) (acc : List Nat), (∀ j, j < acc.length → (masksGo acc l)[j]? = acc[j]?) ∧ ∀ j o, l[j]? = some o → ∃ acc', (masksGo acc l)[acc.length + j]? = some (maskE acc' o.after.toList 0) ∧ acc'.length = acc.length + j ∧ ∀ k, k < acc'.length → (masksGo acc l)[k]? = acc'[k]?
  | [], acc => ⟨fun j _ => rfl, fun j o h => by simp at h⟩
  | o :: t, acc => by
    simp only [masksGo]
    obtain ⟨h1, h2⟩ := masksGo_at t (acc ++ [maskE acc o.after.toList 0])
    refine ⟨fun j hj => ?_, fun j o' hj => ?_⟩
    · rw [h1 j (by simp; omega), List.getElem?_append, if_pos hj]
    · cases j with
      | zero =>
        simp at hj; subst hj
        refine ⟨acc, ?_, rfl, fun k hk => ?_⟩
        · rw [Nat.add_zero, h1 acc.length (by simp)]; simp
        · rw [h1 k (by simp; omega), List.getElem?_append, if_pos hk]
      | succ j =>
        obtain ⟨acc', q1, q2, q3⟩ := h2 j o' (by simpa using hj)
        refine ⟨acc', ?_, by simp at q2; omega, q3⟩
        rw [show acc.length + (j + 1) = (acc ++ [maskE acc o.after.toList 0]).length + j by simp; omega]; exact q1
theorem edgesB_at : ∀ (l : List Oper) (i : Nat), edgesB i l = true → ∀ j o, l[j]? = some o → ∀ e ∈ o.after.toList, Region.binds .any e = true → e.on < i + j
  | [], i, _, j, o, h => by simp at h
  | o :: t, i, hb, j, o', h => by
    simp only [edgesB, Bool.and_eq_true] at hb
    cases j with
    | zero =>
      simp at h; subst h
      intro e he hbe
      have := List.all_eq_true.1 hb.1 e he
      simpa [hbe] using this
    | succ j =>
      have := edgesB_at t (i + 1) hb.2 j o' (by simpa using h)
      intro e he hbe
      have := this e he hbe
      omega
/-- Who is waited for is done. -/
theorem mask_done {ops : Array Oper} (he : edgesB 0 ops.toList = true) {listed : Array Bool} (hd : DownD ops listed) : ∀ (j : Nat) (o : Oper), ops[j]? = some o → DepsD o listed → ∀ i, ((masks ops.toList).getD j 0).testBit i = true → listed.getD i false = true := by
  intro j
  induction j using Nat.strongRecOn with
  | ind j ih =>
    intro o ho hdd i hi
    have ho' : ops.toList[j]? = some o := by simpa using ho
    obtain ⟨acc', q1, q2, q3⟩ := (masksGo_at ops.toList []).2 j o ho'
    simp only [List.length_nil, Nat.zero_add] at q1 q2
    rw [List.getD_eq_getElem?_getD, masks, q1, Option.getD_some] at hi
    rcases maskE_bit _ _ _ _ hi with h | ⟨e, h1, h2, h3⟩
    · simp at h
    · have hlt := edgesB_at ops.toList 0 he j o ho' e h1 h2
      have hdone := hdd e h1 h2
      rcases h3 with h3 | h3
      · rw [← h3]; exact hdone
      · have hlt' : e.on < j := by omega
        have hjs : j < ops.size := (Array.getElem?_eq_some_iff.1 ho).1
        have hoe : ops[e.on]? = some ops[e.on] := Array.getElem?_eq_getElem (by omega)
        refine ih e.on hlt' _ hoe (hd e.on _ hoe hdone) i ?_
        rw [List.getD_eq_getElem?_getD, masks, q3 e.on (by omega), ← List.getD_eq_getElem?_getD]; exact h3
end Go.Proofs.Ytpkjmnfgpbliaaa
namespace Go.Proofs.Ytpkjmnfgpbliaaa
open Go.RowKit
set_option linter.unusedSimpArgs false
set_option linter.unusedVariables false
set_option linter.unusedSectionVars false

/-- What is known of the program. -/
structure CxOk (P : Program) (c : Cx) : Prop where
  ty : ∀ T i, c.Γ T = some i → TyOk P T i
  eq : ∀ T n, getA c.eqs T = some n → EqOk P T n
  del : DelOk P c.Δ
  mix : P.follows .mixedOrders = true

section
variable {P : Program} {c : Cx} {m0 : Nat → Nat → Prop} {w0 : World} {g : Gh} {σ σ' : St} {a : Act} {w : World}

theorem getA_mem {α : Type} {l : List (Nat × α)} {k : Nat} {x : α} (h : getA l k = some x) : (k, x) ∈ l := by
  induction l with
  | nil => cases h
  | cons p t ih =>
    obtain ⟨k', y⟩ := p
    simp only [getA] at h
    split at h
    · rename_i e; simp only [Option.some.injEq] at h; subst h; subst e; simp
    · exact List.mem_cons_of_mem _ (ih h)
theorem nodupB_iff : ∀ (l : List Nat), nodupB l = true → l.Nodup
  | [], _ => List.nodup_nil
  | x :: t, h => by
    simp only [nodupB, Bool.and_eq_true, Bool.not_eq_true', List.contains_eq_mem, decide_eq_false_iff_not] at h
    exact List.nodup_cons.2 ⟨h.1, nodupB_iff t h.2⟩

/-- What is told of memory when a region begins. -/
def startG (al : List Nat) (g : Gh) : Gh := { g with box := fun i => if al.contains i then none else g.box i, used := fun t => g.used t ∧ t < 1000000 }
theorem plain_rel {al : List Nat} {base : Nat} {toks : List Nat} {x : X} {v : Value} (hp : x.plain al = true) (h : RelX g w base toks x v) : RelX (startG al g) w base toks x v := by
  cases x with
  | d y => exact h
  | agz cs => exact h
  | loc b o =>
    obtain ⟨blk, h1, h2⟩ := h
    simp only [X.plain, Bool.not_eq_true'] at hp
    exact ⟨blk, by simp only [startG]; rw [if_neg (by rw [hp]; simp)]; exact h1, h2⟩
  | sl k rows own =>
    cases own with
    | ex => exact h
    | tok t =>
      simp only [X.plain, decide_eq_true_eq] at hp
      exact ⟨h.1, ⟨h.2.1, hp⟩, h.2.2⟩
theorem Inv.start (I : Inv c.N m0 w0 g σ a w) {al : List Nat} (h : startB al σ = true) (hcl : ∀ i cs, getA σ.boxes i = some cs → ∀ x ∈ cs, x.plain al = true) :
    Inv c.N m0 w0 (startG al g) σ a w ∧ (∀ d ∈ al, (startG al g).box d = none) ∧ ∀ i, ¬ (startG al g).used (tokAt i) := by
  simp only [startB, Bool.and_eq_true] at h
  obtain ⟨⟨_, h1⟩, h2⟩ := h
  have hb : ∀ i b, (startG al g).box i = some b → g.box i = some b := by
    intro i b hi
    simp only [startG] at hi
    split at hi
    · cases hi
    · exact hi
  refine ⟨⟨I.below, I.size, I.defers, I.lt, I.old, I.new, fun t x hx => ?_, fun i b hi => I.boxb i b (hb i b hi), fun i j b hi hj => I.boxi i j b (hb i b hi) (hb j b hj), fun t b ht => ?_, I.toki, fun b cs hc blk hblk => ?_⟩, fun d hd => ?_, fun i hi => ?_⟩
  · exact plain_rel (List.all_eq_true.1 h1 _ (getA_mem hx)) (I.tmps t x hx)
  · obtain ⟨k1, k2, k3⟩ := I.tokb t b ht
    exact ⟨k1, k2, fun i hi => k3 i (hb i b hi)⟩
  · obtain ⟨vs, ty, k1, k2, k3⟩ := I.boxes b cs hc blk (hb b blk hblk)
    exact ⟨vs, ty, k1, k2, fun j x v q1 q2 => ⟨(k3 j x v q1 q2).1, plain_rel (hcl b cs hc x (List.mem_of_getElem? q1)) (k3 j x v q1 q2).2⟩⟩
  · simp only [startG]; rw [if_pos (by simpa using hd)]
  · have := hi.2
    unfold tokAt at this; omega

theorem Inv.close (I : Inv c.N m0 w0 g σ a w) (id : Nat) : ∃ g', Inv c.N m0 w0 g' (c.close id σ) a w := by
  have C0 : Cl g σ.toks { g with tok := fun _ => none, used := fun _ => False } σ.toks [] := ⟨rfl, rfl, (fun s h => h.elim), (fun s b h => by cases h), (fun s t b h => by cases h), (fun t h => h)⟩
  obtain ⟨g1, C1, T1, h1⟩ := closeT_rel (w := w) (base := w0.heap.size) I.toki (toks := σ.toks) (tmps := σ.tmps) (f := fun t => a.tmps.getD t undef) I.tmps (c.kp id) _ _ _ C0
  obtain ⟨g2, C2, T2, h2⟩ := closeB_rel (w := w) (base := w0.heap.size) I.toki c.kb I.boxes (locsOf (closeT σ.tmps (c.kp id) σ.toks []).1) g1 _ _ C1
  refine ⟨g2, ⟨I.below, I.size, I.defers, by rw [C2.imm]; exact I.lt, by rw [C2.imm]; exact I.old, by rw [C2.imm]; exact I.new, fun t x hx => RelX.tr T2 (h1 t x hx), by rw [C2.box, C2.imm]; exact I.boxb, by rw [C2.box]; exact I.boxi, fun t b hb => ?_, C2.inj, h2⟩⟩
  obtain ⟨_, t', k1, _⟩ := C2.tok t b hb
  rw [C2.box]; exact I.tokb t' b k1

theorem wanted_rel (I : Inv c.N m0 w0 g σ a w) (ops : Array Oper) (o : Oper) {b : Bool} (h : aWanted ops.toList σ o = some b) : Region.wanted o (yielded ops a.tmps) = b := by
  unfold aWanted at h
  unfold Region.wanted
  cases hg : o.guard with
  | none => rw [hg] at h; simpa using h
  | some p =>
    obtain ⟨j, want⟩ := p
    rw [hg] at h
    simp only at h ⊢
    have e : ops.toList[j]? = ops[j]? := by simp
    rw [e] at h
    unfold yielded
    cases hj : (ops[j]?).bind (·.dst) with
    | none => rw [hj] at h; cases h
    | some t =>
      rw [hj] at h
      simp only [Option.bind_some] at h ⊢
      split at h
      · rename_i bb hx
        have hr := I.tmps t _ hx
        simp only [RelX, Rel] at hr
        have hv : a.tmps[t]? = some (.bool bb) := by
          rw [Array.getD_eq_getD_getElem?] at hr
          cases hh : a.tmps[t]? with
          | none => rw [hh] at hr; simp [undef] at hr
          | some v => rw [hh] at hr; simp at hr; rw [hr]
        rw [hv]
        simp only [Option.some.injEq] at h; subst h
        cases bb <;> cases want <;> rfl
      · rename_i vs hx
        have hr := I.tmps t _ hx
        simp only [RelX, Rel] at hr
        simp only [Option.some.injEq] at h; subst h
        rw [Array.getD_eq_getD_getElem?] at hr
        cases hh : a.tmps[t]? with
        | none => cases want <;> rfl
        | some v => rw [hh] at hr; simp at hr; subst hr; cases want <;> rfl
      · cases h

theorem allocs_cons (o : Oper) (t : List Oper) : allocs (o :: t) = (match allocDst o with | some d => [d] | none => []) ++ allocs t := by
  simp only [allocs]; cases allocDst o <;> rfl
theorem new_allocDst {Γ : Tys} {eqs : List (TypeId × Nat)} {Δ : Nat → List D → Option D} {o : Oper} {ev : Operand → X} {boxes : List (Nat × List X)} {toks : List Nat} {cs : List X} (h : aop Γ eqs Δ o.op ev boxes toks = some (.new cs)) : allocDst o = o.dst := by
  obtain ⟨dst, op, ty, pos, after, guard⟩ := o
  have key : ∀ x : Option X, Res.ofX x ≠ some (.new cs) := fun x h => by cases x <;> simp [Res.ofX] at h
  cases op <;> simp only [aop] at h <;> first
    | rfl
    | (cases h; done)
    | exact absurd h (key _)
    | (simp at h; done)
    | skip
  case store T x y =>
    (repeat' split at h) <;> first | cases h | simp at h
  case buildSlice T n p =>
    (repeat' split at h) <;> first | cases h | simp at h
  case call cc =>
    unfold aCall at h
    (repeat' split at h) <;> first
      | cases h
      | exact absurd h (key _)
      | (unfold aAppend at h; (repeat' split at h) <;> first | cases h | simp at h)
      | simp at h
theorem ops_sound (hc : CxOk P c) (ops : Array Oper) {Q : Exit → Act → World → Prop} : ∀ (rest : List Oper) (i : Nat) (σ σ' : St) (g : Gh) (a : Act) (w : World), c.ops ops.toList i rest σ = some σ' → Inv c.N m0 w0 g σ a w → (allocs rest).Nodup → (∀ d ∈ allocs rest, g.box d = none) → (∀ j, i ≤ j → ¬ g.used (tokAt j)) →
    (∀ g' a' w', Inv c.N m0 w0 g' σ' a' w' → Q .normal a' w') → wpList P ops Q rest a w
  | [], i, σ, σ', g, a, w, h, I, _, _, _, hQ => by
    simp only [Cx.ops, Option.some.injEq] at h; subst h
    exact hQ g a w I
  | o :: t, i, σ, σ', g, a, w, h, I, hnd, hal, hus, hQ => by
    simp only [Cx.ops] at h
    split at h
    · rename_i σ1 hs
      unfold Cx.step at hs
      have hndt : (allocs t).Nodup := by
        rw [allocs_cons] at hnd
        exact (List.nodup_append.1 hnd).2.1
      have halt : ∀ d ∈ allocs t, d ∈ allocs (o :: t) := fun d hd => by rw [allocs_cons]; simp [hd]
      split at hs
      · rename_i hw
        have hw' := wanted_rel I ops o hw
        unfold wpList
        rw [if_pos hw']
        left
        split at hs
        · rename_i r hr
          refine op_sound hc.ty hc.eq hc.del hr hs I (fun cs e d hd => ?_) (hus i (Nat.le_refl _)) fun g' a' w' I' hb hu _ => ?_
          · subst e
            refine hal d ?_
            rw [allocs_cons, new_allocDst hr, hd]; simp
          · refine ops_sound hc ops t (i + 1) σ1 σ' g' a' w' h I' hndt (fun d hd => hb d (hal d (halt d hd)) ?_) (fun j hj hu' => ?_) hQ
            · by_cases hnew : ∃ cs, r = .new cs
              · right
                intro e
                obtain ⟨cs, hcs⟩ := hnew
                subst hcs
                rw [allocs_cons, new_allocDst hr, e] at hnd
                simp only [List.cons_append, List.nil_append, List.nodup_cons] at hnd
                exact hnd.1 hd
              · left; intro cs e; exact hnew ⟨cs, e⟩
            · rcases hu _ hu' with h1 | h1
              · exact hus j (by omega) h1
              · unfold tokAt at h1; omega
        · cases hs
      · rename_i hw
        have hw' := wanted_rel I ops o hw
        unfold wpList
        rw [if_neg (by rw [hw']; simp)]
        have hp : PutOk c.N i σ o.dst .skip σ1 := hs
        have hd := hp.dst
        have hg := hp.get
        simp only [St.res, Option.some.injEq] at hg; subst hg
        exact ops_sound hc ops t (i + 1) _ σ' g _ w h (I.put hd (x := .d (.v (.tuple #[]))) (v := undef) (by simp only [RelX, Rel]; rfl)) hndt (fun d hd => hal d (halt d hd)) (fun j hj => hus j (by omega)) hQ
      · cases hs
    · cases h

theorem region_sound (hc : CxOk P c) {id : Nat} {ops : Array Oper} (h : c.region id ops.toList σ = some σ') (I : Inv c.N m0 w0 g σ a w) {Q : Exit → Act → World → Prop} (hQ : ∀ g' a' w', Inv c.N m0 w0 g' σ' a' w' → Q .normal a' w') : (Code.region id ops false).wp P Q a w := by
  unfold Cx.region at h
  split at h
  · rename_i hst
    split at h
    · rename_i σ1 hops
      simp only [Option.some.injEq] at h; subst h
      have hst' := hst
      simp only [startB, Bool.and_eq_true] at hst'
      obtain ⟨⟨hnd, _⟩, hbx⟩ := hst'
      obtain ⟨I1, hal, hus⟩ := I.start hst (fun i cs hi x hx => by have h := List.all_eq_true.1 hbx _ (getA_mem hi); simp only [Bool.and_eq_true] at h; exact List.all_eq_true.1 h.2 x hx)
      refine wp_region_list (ops_sound hc ops ops.toList 0 σ σ1 _ a w hops I1 (nodupB_iff _ hnd) hal (fun j _ => hus j) fun g' a' w' I' => ?_)
      obtain ⟨g2, I2⟩ := I'.close id
      exact hQ g2 a' w' I2
    · cases h
  · cases h
end
end Go.Proofs.Ytpkjmnfgpbliaaa
namespace Go.Proofs.Ytpkjmnfgpbliaaa
open Go.RowKit
set_option linter.unusedSimpArgs false
set_option linter.unusedVariables false
set_option linter.unusedSectionVars false

/-- What an operation came to, in the order of the text. -/
structure En where
  i : Nat
  d : Option Nat
  r : Res
def En.x (e : En) : X :=
  match e.r with
  | .q x => x
  | .skip => .d (.v (.tuple #[]))
  | .got d => .d d
  | .new _ => .loc (e.d.getD 0) 0
  | .lay k rows => .sl k rows .ex
  | .set _ _ _ => .d .top
  | .app _ k rows => .sl k rows (.tok (tokAt e.i))
def En.tm (u : Nat) (e : En) (s : Option X) : Option X := if e.d = some u then some e.x else s
def En.bx (b : Nat) (e : En) (s : Option (List X)) : Option (List X) :=
  match e.r with
  | .new cs => if e.d = some b then some cs else s
  | .set b' off cs => if b' = b then s.map (fun old => setL old off cs) else s
  | _ => s
def En.tk (e : En) (s : List Nat) : List Nat := match e.r with | .app t _ _ => toksApp s t (tokAt e.i) | _ => s
def En.boxes (e : En) (l : List (Nat × List X)) : List (Nat × List X) :=
  match e.r with
  | .new cs => match e.d with | some d => (d, cs) :: l | none => l
  | .set b off cs => match getA l b with | some old => (b, setL old off cs) :: l | none => l
  | _ => l
def En.ap (e : En) (σ : St) : St := { tmps := putT σ.tmps e.d e.x, boxes := e.boxes σ.boxes, toks := e.tk σ.toks }
theorem ap_of_res {σ σ' : St} {i : Nat} {d : Option Nat} {r : Res} (h : σ.res i d r = some σ') : σ' = (⟨i, d, r⟩ : En).ap σ := by
  cases r with
  | q x => simp only [St.res, Option.some.injEq] at h; rw [← h]; rfl
  | skip => simp only [St.res, Option.some.injEq] at h; rw [← h]; rfl
  | got x => simp only [St.res, Option.some.injEq] at h; rw [← h]; rfl
  | lay k rows => simp only [St.res, Option.some.injEq] at h; rw [← h]; rfl
  | new cs => cases d with
    | none => cases h
    | some d => simp only [St.res, Option.some.injEq] at h; rw [← h]; rfl
  | set b off cs =>
    simp only [St.res] at h
    cases hb : getA σ.boxes b with
    | none => rw [hb] at h; cases h
    | some old =>
      rw [hb] at h; simp only [Option.some.injEq] at h; rw [← h]
      simp [En.ap, En.boxes, En.x, En.tk, hb]
  | app t k rows => cases d with
    | none => cases h
    | some d => simp only [St.res, Option.some.injEq] at h; rw [← h]; rfl
theorem ap_tm (e : En) (σ : St) (u : Nat) : getA (e.ap σ).tmps u = e.tm u (getA σ.tmps u) := by
  simp only [En.ap, En.tm, putT]
  cases h : e.d with
  | none => simp
  | some d =>
    simp only [getA]
    by_cases hu : u = d
    · subst hu; simp
    · rw [if_neg hu, if_neg (by simpa using fun e => hu e.symm)]
theorem ap_bx (e : En) (σ : St) (b : Nat) : getA (e.ap σ).boxes b = e.bx b (getA σ.boxes b) := by
  simp only [En.ap, En.boxes, En.bx]
  cases e.r with
  | new cs =>
    cases h : e.d with
    | none => simp
    | some d =>
      simp only [getA]
      by_cases hu : b = d
      · subst hu; simp
      · rw [if_neg hu, if_neg (by simpa using fun e => hu e.symm)]
  | set b' off cs =>
    simp only
    cases hb : getA σ.boxes b' with
    | none =>
      by_cases hbb : b' = b
      · subst hbb; rw [if_pos rfl, hb]; rfl
      · rw [if_neg hbb]
    | some old =>
      simp only [getA]
      by_cases hbb : b' = b
      · subst hbb; rw [if_pos rfl, if_pos rfl, hb]; rfl
      · rw [if_neg hbb, if_neg (fun e => hbb e.symm)]
  | _ => rfl

/-- What some of the operations come to, in the order of the text. -/
def foldX (X : Nat → Bool) : List En → St → St
  | [], σ => σ
  | e :: t, σ => foldX X t (if X e.i then e.ap σ else σ)
def comp {S : Type} (X : Nat → Bool) (F : En → S → S) : List En → S → S
  | [], s => s
  | e :: t, s => comp X F t (if X e.i then F e s else s)
theorem foldX_tm (X : Nat → Bool) (u : Nat) : ∀ (l : List En) (σ : St), getA (foldX X l σ).tmps u = comp X (En.tm u) l (getA σ.tmps u)
  | [], σ => rfl
  | e :: t, σ => by
    simp only [foldX, comp]
    rw [foldX_tm X u t]
    congr 1
    split
    · exact ap_tm e σ u
    · rfl
theorem foldX_bx (X : Nat → Bool) (b : Nat) : ∀ (l : List En) (σ : St), getA (foldX X l σ).boxes b = comp X (En.bx b) l (getA σ.boxes b)
  | [], σ => rfl
  | e :: t, σ => by
    simp only [foldX, comp]
    rw [foldX_bx X b t]
    congr 1
    split
    · exact ap_bx e σ b
    · rfl
theorem foldX_tk (X : Nat → Bool) : ∀ (l : List En) (σ : St), (foldX X l σ).toks = comp X En.tk l σ.toks
  | [], σ => rfl
  | e :: t, σ => by
    simp only [foldX, comp]
    rw [foldX_tk X t]
    congr 1
    split <;> rfl
theorem comp_congr {S : Type} {X Y : Nat → Bool} {F : En → S → S} : ∀ (l : List En) (s : S), (∀ e ∈ l, X e.i = Y e.i ∨ ∀ s, F e s = s) → comp X F l s = comp Y F l s
  | [], s, _ => rfl
  | e :: t, s, h => by
    simp only [comp]
    rw [comp_congr t _ fun e' he => h e' (by simp [he])]
    congr 1
    rcases h e (by simp) with h1 | h1
    · rw [h1]
    · rw [h1]; simp
theorem comp_none {S : Type} {X : Nat → Bool} {F : En → S → S} : ∀ (l : List En) (s : S), (∀ e ∈ l, X e.i = false ∨ ∀ s, F e s = s) → comp X F l s = s
  | [], s, _ => rfl
  | e :: t, s, h => by
    simp only [comp]
    rw [comp_none t _ fun e' he => h e' (by simp [he])]
    rcases h e (by simp) with h1 | h1
    · rw [h1]; simp
    · rw [h1]; simp
theorem comp_append {S : Type} (X : Nat → Bool) (F : En → S → S) : ∀ (l k : List En) (s : S), comp X F (l ++ k) s = comp X F k (comp X F l s)
  | [], k, s => rfl
  | e :: t, k, s => by simp only [List.cons_append, comp]; exact comp_append X F t k _
theorem comp_insert {S : Type} {X Y : Nat → Bool} {F : En → S → S} (A B : List En) (e : En) (s : S) (hX : X e.i = false) (hY : Y e.i = true) (hA : ∀ e' ∈ A ++ B, Y e'.i = X e'.i) (hB : ∀ e' ∈ B, X e'.i = false ∨ ∀ s, F e' s = s) :
    comp Y F (A ++ e :: B) s = F e (comp X F (A ++ e :: B) s) := by
  rw [comp_append, comp_append]
  simp only [comp, hX, hY, if_true, Bool.false_eq_true, if_false]
  rw [comp_congr (X := Y) (Y := X) A s fun e' he => .inl (hA e' (by simp [he]))]
  rw [comp_none B _ hB]
  rw [comp_none B _ fun e' he => (hB e' he).imp (fun h => by rw [hA e' (by simp [he])]; exact h) id]

/-- What one operation of the text's order comes to in a state. -/
def StepR (c : Cx) (ops : List Oper) (o : Oper) (σ : St) (r : Res) : Prop :=
  (aWanted ops σ o = some true ∧ aop c.Γ c.eqs c.Δ o.op σ.ev σ.boxes σ.toks = some r) ∨ (aWanted ops σ o = some false ∧ r = .skip)
theorem run_entries (c : Cx) (ops : List Oper) : ∀ (rest : List Oper) (i : Nat) (σ σF : St), c.ops ops i rest σ = some σF →
    ∃ L : List En, L.length = rest.length ∧ σF = foldX (fun _ => true) L σ ∧ ∀ j o, rest[j]? = some o → ∃ r, L[j]? = some ⟨i + j, o.dst, r⟩ ∧ dstB c.N o.dst = true ∧ StepR c ops o (foldX (fun k => decide (k < i + j)) L σ) r ∧
      ((foldX (fun k => decide (k < i + j)) L σ).res (i + j) o.dst r).isSome = true
  | [], i, σ, σF, h => by
    simp only [Cx.ops, Option.some.injEq] at h
    exact ⟨[], rfl, h.symm, fun j o h => by simp at h⟩
  | o :: t, i, σ, σF, h => by
    simp only [Cx.ops] at h
    split at h
    · rename_i σ1 hs
      obtain ⟨r, hr, hp⟩ : ∃ r, StepR c ops o σ r ∧ σ.put c.N i o.dst r = some σ1 := by
        unfold Cx.step at hs
        split at hs
        · rename_i hw
          split at hs
          · rename_i r hr; exact ⟨r, .inl ⟨hw, hr⟩, hs⟩
          · cases hs
        · rename_i hw; exact ⟨.skip, .inr ⟨hw, rfl⟩, hs⟩
        · cases hs
      unfold St.put at hp
      split at hp
      · rename_i hdb
        obtain ⟨L, l1, l2, l3⟩ := run_entries c ops t (i + 1) σ1 σF h
        have hap := ap_of_res hp
        have hlow : ∀ (L' : List En) (σ : St), (∀ e ∈ L', i ≤ e.i) → foldX (fun k => decide (k < i)) L' σ = σ := by
          intro L'
          induction L' with
          | nil => intro σ _; rfl
          | cons e t ih =>
            intro σ he
            simp only [foldX]
            have := he e (by simp)
            rw [if_neg (by simp; omega)]
            exact ih σ fun e' h' => he e' (by simp [h'])
        have hidx : ∀ e ∈ L, i + 1 ≤ e.i := by
          intro e he
          obtain ⟨j, hj, rfl⟩ := List.getElem_of_mem he
          have hjt : j < t.length := by omega
          obtain ⟨r', h1, _⟩ := l3 j t[j] (List.getElem?_eq_getElem hjt)
          rw [List.getElem?_eq_getElem hj] at h1
          simp only [Option.some.injEq] at h1
          rw [h1]; show i + 1 ≤ i + 1 + j; omega
        refine ⟨⟨i, o.dst, r⟩ :: L, by simp [l1], by simp only [foldX, if_true]; rw [← hap]; exact l2, fun j o' hj => ?_⟩
        cases j with
        | zero =>
          simp at hj; subst hj
          have hf : foldX (fun k => decide (k < i + 0)) (⟨i, o.dst, r⟩ :: L) σ = σ := by
            rw [Nat.add_zero]
            exact hlow _ σ fun e he => by
              rcases List.mem_cons.1 he with rfl | he
              · exact Nat.le_refl _
              · have := hidx e he; omega
          refine ⟨r, rfl, hdb, by rw [hf]; exact hr, by rw [hf, Nat.add_zero, hp]; rfl⟩
        | succ j =>
          obtain ⟨r', h1, h2, h3, h4⟩ := l3 j o' (by simpa using hj)
          have hf : foldX (fun k => decide (k < i + (j + 1))) (⟨i, o.dst, r⟩ :: L) σ = foldX (fun k => decide (k < i + 1 + j)) L σ1 := by
            simp only [foldX]
            rw [if_pos (by simp), ← hap, show i + (j + 1) = i + 1 + j by omega]
          rw [hf, show i + (j + 1) = i + 1 + j by omega]
          exact ⟨r', by simpa using h1, h2, h3, h4⟩
      · cases hp
    · cases h

def opTmps (o : Oper) : List Nat := o.op.operands.toList.filterMap fun | .tmp t => some t | _ => none
def guardTmp (ops : List Oper) (o : Oper) : List Nat := match o.guard with | some (j, _) => ((ops[j]?).bind (·.dst)).toList | none => []
def namesOf (ops : List Oper) (o : Oper) : List Nat := opTmps o ++ guardTmp ops o ++ o.dst.toList
def isApp : Op → Bool
  | .call cc => (match cc.callee with | .builtin .append => true | _ => false)
  | _ => false
def isW (op : Op) : Bool := match op with | .store _ _ _ => true | _ => false
def isRW (op : Op) : Bool := match op with | .load _ _ => true | op => isW op
def confB (ops : List Oper) (a b : Oper) : Bool :=
  (match a.dst with | some d => (namesOf ops b).contains d | none => false) || (match b.dst with | some d => (namesOf ops a).contains d | none => false) || (isW a.op && isRW b.op) || (isRW a.op && isW b.op) || (isApp a.op && isApp b.op)
def pairsB (ops : List Oper) (M : List Nat) : Nat → List Oper → Bool
  | _, [] => true
  | j, b :: t => (ops.take j).zipIdx.all (fun (a, i) => !confB ops a b || (M.getD j 0).testBit i) && pairsB ops M (j + 1) t
/-- What is looked at before a region whose order is drawn: whatever gets in another's way is ordered. -/
def drawnB (ops : List Oper) : Bool := edgesB 0 ops && pairsB ops (masks ops) 0 ops
theorem pairsB_at (ops : List Oper) (M : List Nat) : ∀ (l : List Oper) (k : Nat), pairsB ops M k l = true → ∀ j b, l[j]? = some b → ∀ i a, i < k + j → ops[i]? = some a → confB ops a b = true → (M.getD (k + j) 0).testBit i = true
  | [], k, _, j, b, h => by simp at h
  | b0 :: t, k, hp, j, b, h => by
    simp only [pairsB, Bool.and_eq_true] at hp
    cases j with
    | zero =>
      simp at h; subst h
      intro i a hi ha hc
      have := List.all_eq_true.1 hp.1 (a, i) (by
        rw [List.mem_zipIdx_iff_getElem?]
        simp only
        rw [List.getElem?_take, if_pos (by omega)]; exact ha)
      simpa [hc] using this
    | succ j =>
      intro i a hi ha hc
      have := pairsB_at ops M t (k + 1) hp.2 j b (by simpa using h) i a (by omega) ha hc
      rw [show k + (j + 1) = k + 1 + j by omega]; exact this
theorem confB_comm (ops : List Oper) (a b : Oper) : confB ops a b = confB ops b a := by
  unfold confB
  cases isW a.op <;> cases isW b.op <;> cases isRW a.op <;> cases isRW b.op <;> cases isApp a.op <;> cases isApp b.op <;> simp [Bool.or_comm]
/-- Of two operations that get in each other's way, the first one is done first. -/
theorem conf_order {ops : Array Oper} (hd : drawnB ops.toList = true) {listed : Array Bool} (hdn : DownD ops listed) {i j : Nat} {oi oj : Oper} (hi : ops[i]? = some oi) (hj : ops[j]? = some oj) (hli : listed.getD i false = false) (hdep : DepsD oi listed) (hc : confB ops.toList oi oj = true) (hne : j ≠ i) :
    listed.getD j false = decide (j < i) := by
  simp only [drawnB, Bool.and_eq_true] at hd
  obtain ⟨he, hp⟩ := hd
  rcases Nat.lt_or_ge j i with h | h
  · rw [decide_eq_true h]
    refine mask_done he hdn i oi hi hdep j ?_
    have := pairsB_at ops.toList _ ops.toList 0 hp i oi (by simpa using hi) j oj (by omega) (by simpa using hj) (by rw [confB_comm]; exact hc)
    simpa using this
  · have hlt : i < j := by omega
    rw [decide_eq_false (by omega)]
    cases hlj : listed.getD j false with
    | false => rfl
    | true =>
      have hm := pairsB_at ops.toList _ ops.toList 0 hp j oj (by simpa using hj) i oi (by omega) (by simpa using hi) hc
      have := mask_done he hdn j oj hj (hdn j oj hj hlj) i (by simpa using hm)
      rw [hli] at this; cases this
end Go.Proofs.Ytpkjmnfgpbliaaa
namespace Go.Proofs.Ytpkjmnfgpbliaaa
open Go.RowKit
set_option linter.unusedSimpArgs false
set_option linter.unusedVariables false
set_option linter.unusedSectionVars false

theorem map_congr_ops {ev ev' : Operand → X} (l : List Operand) (h : ∀ x ∈ l, ev x = ev' x) : l.map ev = l.map ev' := List.map_congr_left h
theorem aop_congr {Γ : Tys} {eqs : List (TypeId × Nat)} {Δ : Nat → List D → Option D} {op : Op} {ev ev' : Operand → X} {boxes boxes' : List (Nat × List X)} {toks toks' : List Nat} (he : ∀ x ∈ op.operands.toList, ev x = ev' x)
    (hb : isRW op = true → ∀ x ∈ op.operands.toList, ∀ b off, ev' x = .loc b off → getA boxes b = getA boxes' b) (ht : isApp op = true → toks = toks') : aop Γ eqs Δ op ev boxes toks = aop Γ eqs Δ op ev' boxes' toks' := by
  cases op with
  | call cc =>
    obtain ⟨callee, args, argTypes⟩ := cc
    simp only [aop, aCall]
    have hargs : ∀ x ∈ args.toList, ev x = ev' x := fun x hx => he x (by simp only [Op.operands, Call.operands, Array.toList_append, List.mem_append]; exact .inr hx)
    have hm : args.toList.map ev = args.toList.map ev' := map_congr_ops _ hargs
    cases callee with
    | value f =>
      have hf : ev f = ev' f := he f (by simp [Op.operands, Call.operands])
      simp only [hf, hm]
    | invoke r m => rfl
    | builtin bi =>
      cases bi <;> simp only
      · have ht' := ht rfl
        subst ht'
        split
        · rename_i s x T T' ha hT
          rw [hargs s (by rw [ha]; simp), hargs x (by rw [ha]; simp)]
        · rfl
      · split
        · rename_i x T ha hT
          rw [hargs x (by rw [ha]; simp)]
        · rfl
      · split
        · rename_i x y ha
          rw [hargs x (by rw [ha]; simp), hargs y (by rw [ha]; simp)]
        · rfl
      · split
        · rename_i x y ha
          rw [hargs x (by rw [ha]; simp), hargs y (by rw [ha]; simp)]
        · rfl
  | load T x =>
    have hx := he x (by simp [Op.operands])
    have hbx := hb rfl x (by simp [Op.operands])
    simp only [aop, hx]
    congr 1
    unfold aLoad
    split
    · rfl
    · split
      · rename_i b off heq
        rw [hbx b off heq]
      · rfl
      · rfl
  | store T x y =>
    have hx := he x (by simp [Op.operands])
    have hy := he y (by simp [Op.operands])
    have hbx := hb rfl x (by simp [Op.operands])
    simp only [aop, hx, hy]
    split
    · rename_i b off cs ii heq _ _
      rw [hbx b off heq]
    · rfl
  | build T parts =>
    simp only [aop]
    have : (parts.toList.map fun p => (p.1, ev p.2)) = parts.toList.map fun p => (p.1, ev' p.2) := List.map_congr_left fun p hp => by
      rw [he p.2 (by simp only [Op.operands, List.mem_map]; exact ⟨p, hp, rfl⟩)]
    rw [this]
  | buildSlice T n parts =>
    simp only [aop]
    have : (parts.toList.map fun p => (p.1, ev p.2)) = parts.toList.map fun p => (p.1, ev' p.2) := List.map_congr_left fun p hp => by
      rw [he p.2 (by simp only [Op.operands, List.mem_map]; exact ⟨p, hp, rfl⟩)]
    rw [this]
  | slice T x lo hi mx =>
    simp only [aop]
    have hx := he x (by simp [Op.operands])
    have h1 : lo.map ev = lo.map ev' := by cases lo with | none => rfl | some y => simp only [Option.map_some]; rw [he y (by simp [Op.operands])]
    have h2 : hi.map ev = hi.map ev' := by cases hi with | none => rfl | some y => simp only [Option.map_some]; rw [he y (by simp [Op.operands])]
    have h3 : mx.map ev = mx.map ev' := by cases mx with | none => rfl | some y => simp only [Option.map_some]; rw [he y (by simp [Op.operands])]
    rw [hx, h1, h2, h3]
  | _ =>
    first
      | rfl
      | (simp only [aop]; simp only [Op.operands, Array.toList, List.mem_cons, List.not_mem_nil, or_false, forall_eq_or_imp, forall_eq] at he; simp only [he])

theorem Inv.eqv {N : Nat} {m0 : Nat → Nat → Prop} {w0 : World} {g : Gh} {σ σ' : St} {a : Act} {w : World} (I : Inv N m0 w0 g σ a w) (h1 : ∀ u, getA σ'.tmps u = getA σ.tmps u) (h2 : ∀ b, getA σ'.boxes b = getA σ.boxes b) (h3 : σ'.toks = σ.toks) : Inv N m0 w0 g σ' a w :=
  ⟨I.below, I.size, I.defers, I.lt, I.old, I.new, fun t x h => by rw [h3]; exact I.tmps t x (by rw [← h1]; exact h), I.boxb, I.boxi, I.tokb, I.toki, fun b cs h blk hb => by rw [h3]; exact I.boxes b cs (by rw [← h2]; exact h) blk hb⟩

theorem app_of_res {Γ : Tys} {eqs : List (TypeId × Nat)} {Δ : Nat → List D → Option D} {op : Op} {ev : Operand → X} {boxes : List (Nat × List X)} {toks : List Nat} {r : Res} (h : aop Γ eqs Δ op ev boxes toks = some r) : (∀ t k rows, r = .app t k rows → isApp op = true) ∧ (∀ b off cs, r = .set b off cs → isW op = true ∧ ∃ x ∈ op.operands.toList, ev x = .loc b off) := by
  have key : ∀ x : Option X, ∀ r, Res.ofX x = some r → ∃ y, r = .q y := fun x r h => by cases x <;> simp [Res.ofX] at h; exact ⟨_, h.symm⟩
  cases op <;> simp only [aop] at h <;> first
    | (cases h; done)
    | (obtain ⟨y, rfl⟩ := key _ _ h; exact ⟨(fun _ _ _ e => by cases e), (fun _ _ _ e => by cases e)⟩)
    | (simp only [Option.some.injEq] at h; subst h; exact ⟨(fun _ _ _ e => by cases e), (fun _ _ _ e => by cases e)⟩)
    | skip
  case alloc T =>
    split at h <;> first | (cases h; done) | (simp only [Option.some.injEq] at h; subst h; exact ⟨(fun _ _ _ e => by cases e), (fun _ _ _ e => by cases e)⟩)
  case box T x =>
    split at h <;> first | (cases h; done) | (simp only [Option.some.injEq] at h; subst h; exact ⟨(fun _ _ _ e => by cases e), (fun _ _ _ e => by cases e)⟩)
  case buildSlice T n p =>
    split at h <;> first | (cases h; done) | (simp only [Option.some.injEq] at h; subst h; exact ⟨(fun _ _ _ e => by cases e), (fun _ _ _ e => by cases e)⟩)
  case store T x y =>
    split at h
    · rename_i b off cs ii heq _ _
      split at h
      · split at h
        · simp only [Option.some.injEq] at h; subst h
          refine ⟨fun _ _ _ e => (by cases e), fun b' off' cs' e => ⟨rfl, x, by simp [Op.operands], ?_⟩⟩
          simp only [Res.set.injEq] at e
          obtain ⟨rfl, rfl, _⟩ := e
          exact heq
        · cases h
      · cases h
    · cases h
  case call cc =>
    obtain ⟨callee, args, argTypes⟩ := cc
    unfold aCall at h
    simp only at h
    split at h
    · split at h
      · obtain ⟨y, rfl⟩ := key _ _ h; exact ⟨fun _ _ _ e => (by cases e), fun _ _ _ e => (by cases e)⟩
      · cases h
    · refine ⟨fun _ _ _ _ => rfl, fun b off cs e => ?_⟩
      subst e
      exfalso
      split at h
      · unfold aAppend at h
        (repeat' split at h) <;> first | cases h | simp at h
      · cases h
    · split at h
      · obtain ⟨y, rfl⟩ := key _ _ h; exact ⟨fun _ _ _ e => (by cases e), fun _ _ _ e => (by cases e)⟩
      · cases h
    · split at h
      · obtain ⟨y, rfl⟩ := key _ _ h; exact ⟨fun _ _ _ e => (by cases e), fun _ _ _ e => (by cases e)⟩
      · cases h
    · (repeat' split at h) <;> first | (cases h; done) | (simp only [Option.some.injEq] at h; subst h; exact ⟨fun _ _ _ e => (by cases e), fun _ _ _ e => (by cases e)⟩)
    · cases h
end Go.Proofs.Ytpkjmnfgpbliaaa
namespace Go.Proofs.Ytpkjmnfgpbliaaa
open Go.RowKit
set_option linter.unusedSimpArgs false
set_option linter.unusedVariables false
set_option linter.unusedSectionVars false

theorem alloc_unique : ∀ (l : List Oper) {j k : Nat} {o o' : Oper} {d : Nat}, (allocs l).Nodup → l[j]? = some o → l[k]? = some o' → allocDst o = some d → allocDst o' = some d → j = k
  | [], j, k, o, o', d, _, h, _, _, _ => by simp at h
  | p :: t, j, k, o, o', d, hn, h1, h2, h3, h4 => by
    have hmem : ∀ (l : List Oper) (q : Nat) (x : Oper), l[q]? = some x → allocDst x = some d → d ∈ allocs l := by
      intro l
      induction l with
      | nil => intro q x h; simp at h
      | cons y t ih =>
        intro q x h hx
        rw [allocs_cons]
        cases q with
        | zero => simp at h; subst h; rw [hx]; simp
        | succ q => have := ih q x (by simpa using h) hx; simp [this]
    rw [allocs_cons] at hn
    cases j with
    | zero =>
      cases k with
      | zero => rfl
      | succ k =>
        simp at h1; subst h1
        rw [h3] at hn
        simp only [List.cons_append, List.nil_append, List.nodup_cons] at hn
        exact absurd (hmem t k o' (by simpa using h2) h4) hn.1
    | succ j =>
      cases k with
      | zero =>
        simp at h2; subst h2
        rw [h4] at hn
        simp only [List.cons_append, List.nil_append, List.nodup_cons] at hn
        exact absurd (hmem t j o (by simpa using h1) h3) hn.1
      | succ k => exact congrArg (· + 1) (alloc_unique t (j := j) (k := k) (List.nodup_append.1 hn).2.1 (by simpa using h1) (by simpa using h2) h3 h4)
theorem allocs_mem : ∀ (l : List Oper) {q : Nat} {x : Oper} {d : Nat}, l[q]? = some x → allocDst x = some d → d ∈ allocs l
  | [], q, x, d, h, _ => by simp at h
  | y :: t, q, x, d, h, hx => by
    rw [allocs_cons]
    cases q with
    | zero => simp at h; subst h; rw [hx]; simp
    | succ q => have := allocs_mem t (q := q) (x := x) (by simpa using h) hx; simp [this]
theorem comp_fix {S : Type} {X : Nat → Bool} {F : En → S → S} : ∀ (l : List En) (s : S), (∀ e ∈ l, X e.i = true → F e s = s) → comp X F l s = s
  | [], s, _ => rfl
  | e :: t, s, h => by
    simp only [comp]
    by_cases hx : X e.i = true
    · rw [if_pos hx, h e (by simp) hx]; exact comp_fix t s fun e' he => h e' (by simp [he])
    · rw [if_neg hx]; exact comp_fix t s fun e' he => h e' (by simp [he])
theorem aop_loc {Γ : Tys} {eqs : List (TypeId × Nat)} {Δ : Nat → List D → Option D} {op : Op} {ev : Operand → X} {boxes : List (Nat × List X)} {toks : List Nat} {r : Res} (h : aop Γ eqs Δ op ev boxes toks = some r) (hw : isRW op = true) {x : Operand} (hx : x ∈ op.operands.toList) {b off : Nat} (hl : ev x = .loc b off) : getA boxes b ≠ none := by
  intro hn
  cases op <;> simp only [isRW, isW, isApp] at hw <;> try (cases hw; done)
  case load T y =>
    simp [Op.operands] at hx; subst hx
    simp only [aop, aLoad, hl] at h
    cases hT : Γ T with
    | none => rw [hT] at h; cases h
    | some i => rw [hT] at h; simp only [hn] at h; cases h
  case store T y z =>
    simp [Op.operands] at hx
    simp only [aop] at h
    rcases hx with rfl | rfl
    · rw [hl] at h
      split at h
      · rename_i heq _ _
        simp only [X.loc.injEq] at heq
        obtain ⟨rfl, rfl⟩ := heq
        rw [hn] at h; cases h
      · cases h
    · rw [hl, show (X.loc b off).cells = none from rfl] at h
      split at h
      · rename_i h2 _; cases h2
      · cases h

section
variable {P : Program} {c : Cx} {m0 : Nat → Nat → Prop} {w0 : World} {g : Gh} {σ σ' : St} {a : Act} {w : World}

set_option maxHeartbeats 1000000 in
theorem drawn_sound (hc : CxOk P c) {id : Nat} {ops : Array Oper} (h : c.region id ops.toList σ = some σ') (hd : drawnB ops.toList = true) (I : Inv c.N m0 w0 g σ a w) {Q : Exit → Act → World → Prop} (hQ : ∀ g' a' w', Inv c.N m0 w0 g' σ' a' w' → Q .normal a' w') : (Code.region id ops true).wp P Q a w := by
  unfold Cx.region at h
  split at h
  · rename_i hst
    split at h
    · rename_i σ1 hops
      simp only [Option.some.injEq] at h; subst h
      have hst' := hst
      simp only [startB, Bool.and_eq_true] at hst'
      obtain ⟨⟨hnd, _⟩, hbx⟩ := hst'
      have hnd := nodupB_iff _ hnd
      obtain ⟨I1, hal, hus⟩ := I.start hst (fun i cs hi x hx => by have h := List.all_eq_true.1 hbx _ (getA_mem hi); simp only [Bool.and_eq_true] at h; exact List.all_eq_true.1 h.2 x hx)
      have hno : ∀ b ∈ allocs ops.toList, getA σ.boxes b = none := by
        intro b hb
        cases hg : getA σ.boxes b with
        | none => rfl
        | some cs =>
          have h := List.all_eq_true.1 hbx _ (getA_mem hg)
          simp only [Bool.and_eq_true, Bool.not_eq_true', List.contains_eq_mem, decide_eq_false_iff_not] at h
          exact absurd hb h.1
      obtain ⟨L, l1, l2, l3⟩ := run_entries c ops.toList ops.toList 0 σ σ1 hops
      simp only [Nat.zero_add] at l3
      -- each entry belongs to its operation
      have hent : ∀ e ∈ L, ∃ o, ops[e.i]? = some o ∧ L[e.i]? = some e ∧ e.d = o.dst ∧ StepR c ops.toList o (foldX (fun k => decide (k < e.i)) L σ) e.r ∧ ((foldX (fun k => decide (k < e.i)) L σ).res e.i o.dst e.r).isSome = true := by
        intro e he
        obtain ⟨j, hj, rfl⟩ := List.getElem_of_mem he
        have hjo : j < ops.toList.length := by omega
        obtain ⟨r, h1, h2, h3, h4⟩ := l3 j ops.toList[j] (List.getElem?_eq_getElem hjo)
        have h5 := h1
        rw [List.getElem?_eq_getElem hj] at h1
        simp only [Option.some.injEq] at h1
        rw [h1]
        exact ⟨ops.toList[j], by rw [← Array.getElem?_toList]; exact List.getElem?_eq_getElem hjo, h5, rfl, h3, h4⟩
      have hnew : ∀ e ∈ L, ∀ cs, e.r = .new cs → ∀ d, e.d = some d → ∃ o, ops.toList[e.i]? = some o ∧ allocDst o = some d := by
        intro e he cs hr d hd'
        obtain ⟨o, h1, h2, h3, h4, _⟩ := hent e he
        refine ⟨o, by simpa using h1, ?_⟩
        rcases h4 with ⟨_, h4⟩ | ⟨_, h4⟩
        · rw [hr] at h4; rw [new_allocDst h4, ← h3]; exact hd'
        · rw [hr] at h4; cases h4
      have hsame : ∀ e ∈ L, ∀ e' ∈ L, ∀ cs cs', e.r = .new cs → e'.r = .new cs' → ∀ d, e.d = some d → e'.d = some d → e.i = e'.i := by
        intro e he e' he' cs cs' hr hr' d hd1 hd2
        obtain ⟨o, h1, h2⟩ := hnew e he cs hr d hd1
        obtain ⟨o', h3, h4⟩ := hnew e' he' cs' hr' d hd2
        exact alloc_unique _ hnd h1 h3 h2 h4
      -- in the order of the text a variable is not there before it is made
      have hunborn : ∀ e ∈ L, ∀ cs, e.r = .new cs → ∀ b, e.d = some b → ∀ i, i ≤ e.i → getA (foldX (fun k => decide (k < i)) L σ).boxes b = none := by
        intro e he cs hr b hb i hi
        obtain ⟨o, h1, h2⟩ := hnew e he cs hr b hb
        rw [foldX_bx, hno b (allocs_mem _ h1 h2)]
        refine comp_fix L none fun e' he' hx => ?_
        unfold En.bx
        split
        · rename_i cs' hr'
          split
          · rename_i hd'
            have := hsame e he e' he' cs cs' hr hr' b hb hd'
            simp at hx; omega
          · rfl
        · split <;> rfl
        · rfl
      refine wp_region_any hc.mix (any_sound (fun listed a w => ∃ g, Inv c.N m0 w0 g (foldX (fun k => listed.getD k false) L σ) a w ∧ (∀ e ∈ L, listed.getD e.i false = false → ∀ cs, e.r = .new cs → ∀ d, e.d = some d → g.box d = none) ∧
        (∀ e ∈ L, listed.getD e.i false = true → ∀ b off cs, e.r = .set b off cs → g.box b ≠ none) ∧ ∀ e ∈ L, listed.getD e.i false = false → ¬ g.used (tokAt e.i)) ?dep ?step ?fin ops.size (Array.replicate ops.size false) a _ (by simp) ?down (by simp) ?start)
      case dep =>
        intro i o ho e he hb
        have hd' := hd
        simp only [drawnB, Bool.and_eq_true] at hd'
        have := edgesB_at ops.toList 0 hd'.1 i o (by simpa using ho) e he hb
        omega
      case down =>
        intro i o ho hl
        have : i < ops.size := (Array.getElem?_eq_some_iff.1 ho).1
        simp [Array.getD_eq_getD_getElem?, this] at hl
      case start =>
        have h0 : ∀ k, (Array.replicate ops.size false).getD k false = false := by
          intro k
          simp only [Array.getD_eq_getD_getElem?, Array.getElem?_replicate]
          split <;> rfl
        have hf : ∀ (l : List En) (σ : St), foldX (fun k => (Array.replicate ops.size false).getD k false) l σ = σ := by
          intro l
          induction l with
          | nil => intro σ; rfl
          | cons e t ih => intro σ; simp only [foldX]; rw [if_neg (by rw [h0]; simp)]; exact ih σ
        refine ⟨_, by rw [hf]; exact I1.drew, fun e he _ cs hr d hd' => ?_, fun e he hl => ?_, fun e he _ => hus e.i⟩
        · obtain ⟨o, h1, h2⟩ := hnew e he cs hr d hd'
          exact hal d (allocs_mem _ h1 h2)
        · rw [h0] at hl; cases hl
      case fin =>
        rintro listed a' w' hs hall ⟨g', I', _⟩
        have hf : foldX (fun k => listed.getD k false) L σ = σ1 := by
          rw [l2]
          have : ∀ (l : List En) (σ : St), (∀ e ∈ l, listed.getD e.i false = true) → foldX (fun k => listed.getD k false) l σ = foldX (fun _ => true) l σ := by
            intro l
            induction l with
            | nil => intro σ _; rfl
            | cons e t ih =>
              intro σ he
              simp only [foldX, he e (by simp), if_true]
              exact ih _ fun e' h' => he e' (by simp [h'])
          refine this L σ fun e he => ?_
          obtain ⟨o, h1, _⟩ := hent e he
          have hlt : e.i < ops.size := (Array.getElem?_eq_some_iff.1 h1).1
          rw [← getD_tf (by omega)]; exact hall e.i hlt
        rw [hf] at I'
        obtain ⟨g2, I2⟩ := I'.close id
        exact hQ g2 a' w' I2
      case step =>
        rintro listed i o a' w' hs hdn ho hli hdep ⟨g1, IS, hJ2, hJ3, hJ4⟩ K hK
        have hilt : i < ops.size := (Array.getElem?_eq_some_iff.1 ho).1
        have hXi : listed.getD i false = false := by rw [← getD_tf (by omega)]; exact hli
        obtain ⟨r, hLi, hdst, hstep, hres⟩ := l3 i o (by simpa using ho)
        have heL : (⟨i, o.dst, r⟩ : En) ∈ L := List.mem_of_getElem? hLi
        have hconf : ∀ j oj, ops[j]? = some oj → confB ops.toList o oj = true → listed.getD j false = decide (j < i) := by
          intro j oj hj hcf
          by_cases hji : j = i
          · rw [hji, hXi]; simp
          · exact conf_order hd hdn ho hj hXi hdep hcf hji
        generalize hS : foldX (fun k => listed.getD k false) L σ = S at *
        generalize hT : foldX (fun k => decide (k < i)) L σ = T at *
        -- the temporaries that the operation sees
        have htm : ∀ u ∈ namesOf ops.toList o, getA S.tmps u = getA T.tmps u := by
          intro u hu
          rw [← hS, ← hT, foldX_tm, foldX_tm]
          refine comp_congr L _ fun e he => ?_
          obtain ⟨oj, h1, _, h3, _⟩ := hent e he
          by_cases hdu : e.d = some u
          · left
            refine hconf e.i oj h1 ?_
            unfold confB
            rw [← h3, hdu]
            simp [hu]
          · right; intro s; unfold En.tm; rw [if_neg hdu]
        have hev : ∀ x ∈ o.op.operands.toList, S.ev x = T.ev x := by
          intro x hx
          cases x with
          | tmp t =>
            simp only [St.ev]
            rw [htm t]
            unfold namesOf opTmps
            simp only [List.mem_append, List.mem_filterMap]
            exact .inl (.inl ⟨.tmp t, hx, rfl⟩)
          | _ => rfl
        have hwant : aWanted ops.toList S o = aWanted ops.toList T o := by
          unfold aWanted
          cases hg : o.guard with
          | none => rfl
          | some p =>
            obtain ⟨j, want⟩ := p
            simp only
            cases hj : (ops.toList[j]?).bind (·.dst) with
            | none => rfl
            | some t =>
              simp only
              rw [htm t]
              unfold namesOf guardTmp
              rw [hg]
              simp only [hj]
              simp
        -- what is done next
        have hsplit : ∃ A B, L = A ++ (⟨i, o.dst, r⟩ : En) :: B ∧ (∀ e ∈ A ++ B, e.i ≠ i ∧ e ∈ L) ∧ ∀ e ∈ B, i < e.i := by
          have hiL : i < L.length := by rw [l1]; simpa using hilt
          have hLe : L[i] = ⟨i, o.dst, r⟩ := by have := hLi; rw [List.getElem?_eq_getElem hiL] at this; simpa using this
          refine ⟨L.take i, L.drop (i + 1), ?_, ?_, ?_⟩
          · rw [← hLe, ← List.drop_eq_getElem_cons hiL, List.take_append_drop]
          · intro e he
            have hidx : ∀ (j : Nat) (e : En), L[j]? = some e → e.i = j := by
              intro j e hj
              have hjL : j < ops.toList.length := by rw [← l1]; exact (List.getElem?_eq_some_iff.1 hj).1
              obtain ⟨r', h1, _⟩ := l3 j _ (List.getElem?_eq_getElem hjL)
              rw [h1] at hj; simp only [Option.some.injEq] at hj; rw [← hj]
            rcases List.mem_append.1 he with he | he
            · obtain ⟨j, hj, rfl⟩ := List.getElem_of_mem he
              have hj' : j < i := by simp at hj; omega
              have : L[j]? = some ((L.take i)[j]) := by
                rw [← List.getElem?_eq_getElem hj, List.getElem?_take, if_pos hj']
              exact ⟨by rw [hidx j _ this]; omega, List.mem_of_getElem? this⟩
            · obtain ⟨j, hj, rfl⟩ := List.getElem_of_mem he
              have : L[i + 1 + j]? = some ((L.drop (i + 1))[j]) := by
                rw [← List.getElem?_eq_getElem hj, List.getElem?_drop]
              exact ⟨by rw [hidx _ _ this]; omega, List.mem_of_getElem? this⟩
          · intro e he
            obtain ⟨j, hj, rfl⟩ := List.getElem_of_mem he
            have hh : L[i + 1 + j]? = some ((L.drop (i + 1))[j]) := by
              rw [← List.getElem?_eq_getElem hj, List.getElem?_drop]
            have hjL : i + 1 + j < ops.toList.length := by rw [← l1]; exact (List.getElem?_eq_some_iff.1 hh).1
            obtain ⟨r', h1, _⟩ := l3 (i + 1 + j) _ (List.getElem?_eq_getElem hjL)
            rw [h1] at hh; simp only [Option.some.injEq] at hh; rw [← hh]; show i < i + 1 + j; omega
        obtain ⟨A, B, hAB, hne, hBlt⟩ := hsplit
        have hset : ∀ k, (listed.setIfInBounds i true).getD k false = if k = i then true else listed.getD k false := fun k => getD_setD listed i k false (by omega)
        have hnext : ∀ g' a' w', Inv c.N m0 w0 g' ((⟨i, o.dst, r⟩ : En).ap S) a' w' → (∀ j, g1.box j = none → ((∀ cs, r ≠ .new cs) ∨ o.dst ≠ some j) → g'.box j = none) → (∀ t, g'.used t → g1.used t ∨ t = tokAt i) → (∀ j, g1.box j ≠ none → g'.box j ≠ none) →
            (∀ b off cs, r = .set b off cs → g1.box b ≠ none) → K a' w' := by
          intro g' a' w' I' p2 p3 p4 p5
          refine hK a' w' ⟨g', I'.eqv (fun u => ?_) (fun b => ?_) ?_, fun e he hl cs hr d hd' => ?_, fun e he hl b off cs hr => ?_, fun e he hl hu => ?_⟩
          · rw [foldX_tm, ap_tm, ← hS, foldX_tm]
            by_cases hdu : o.dst = some u
            · rw [hAB]
              refine comp_insert A B ⟨i, o.dst, r⟩ _ hXi (by rw [hset, if_pos rfl]) (fun e he => by rw [hset, if_neg (hne e he).1]) fun e he => ?_
              obtain ⟨oj, h1, _, h3, _⟩ := hent e (hne e (by simp [he])).2
              by_cases hdj : e.d = some u
              · left
                show listed.getD e.i false = false
                rw [hconf e.i oj h1 (by unfold confB; rw [hdu]; simp only; rw [show (namesOf ops.toList oj).contains u = true by unfold namesOf; rw [← h3, hdj]; simp]; simp)]
                have := hBlt e he
                simp; omega
              · right; intro s; unfold En.tm; rw [if_neg hdj]
            · have : (⟨i, o.dst, r⟩ : En).tm u = fun s => s := by funext s; unfold En.tm; rw [if_neg hdu]
              rw [this]
              refine comp_congr L _ fun e he => ?_
              by_cases hei : e.i = i
              · right
                have : e = ⟨i, o.dst, r⟩ := by
                  obtain ⟨_, _, h2, _⟩ := hent e he
                  rw [hei, hLi] at h2; simpa using h2.symm
                rw [this]; intro s; unfold En.tm; rw [if_neg hdu]
              · left; rw [hset, if_neg hei]
          · rw [foldX_bx, ap_bx, ← hS, foldX_bx]
            by_cases hnb : (∃ cs, r = .new cs ∧ o.dst = some b) ∨ ∃ off cs, r = .set b off cs
            · rw [hAB]
              refine comp_insert A B ⟨i, o.dst, r⟩ _ hXi (by rw [hset, if_pos rfl]) (fun e he => by rw [hset, if_neg (hne e he).1]) fun e he => ?_
              obtain ⟨hei, heL'⟩ := hne e (by simp [he])
              obtain ⟨oj, h1, _, h3, h4, _⟩ := hent e heL'
              have hgt := hBlt e he
              by_cases hnew' : ∃ cs, e.r = .new cs ∧ e.d = some b
              · obtain ⟨cs', hr', hd'⟩ := hnew'
                rcases hnb with ⟨cs, hr, hdb⟩ | ⟨off, cs, hr⟩
                · exact absurd (hsame e heL' ⟨i, o.dst, r⟩ heL cs' cs hr' hr b hd' hdb) hei
                · have hu := hunborn e heL' cs' hr' b hd' i (by omega)
                  rw [hT] at hu
                  rw [hr] at hres
                  simp only [St.res, hu] at hres
                  cases hres
              · by_cases hset' : ∃ off cs, e.r = .set b off cs
                · obtain ⟨off', cs', hr'⟩ := hset'
                  left
                  show listed.getD e.i false = false
                  rcases hnb with ⟨cs, hr, hdb⟩ | ⟨off, cs, hr⟩
                  · cases hl : listed.getD e.i false with
                    | false => rfl
                    | true => exact absurd (hJ2 _ heL hXi cs hr b hdb) (hJ3 e heL' hl b off' cs' hr')
                  · have w1 : isW o.op = true := by
                      rcases hstep with ⟨_, hs⟩ | ⟨_, hs⟩
                      · exact ((app_of_res hs).2 b off cs hr).1
                      · rw [hr] at hs; cases hs
                    have w2 : isW oj.op = true := by
                      rcases h4 with ⟨_, hs⟩ | ⟨_, hs⟩
                      · exact ((app_of_res hs).2 b off' cs' hr').1
                      · rw [hr'] at hs; cases hs
                    have w3 : isRW oj.op = true := by
                      unfold isRW; split
                      · rfl
                      · exact w2
                    rw [hconf e.i oj h1 (by unfold confB; rw [w1, w3]; simp)]
                    simp; omega
                · right
                  intro s
                  unfold En.bx
                  split
                  · rename_i cs' hr'
                    rw [if_neg fun hd' => hnew' ⟨cs', hr', hd'⟩]
                  · rename_i b' off' cs' hr'
                    rw [if_neg fun hb' => hset' ⟨off', cs', by rw [hr', hb']⟩]
                  · rfl
            · have hid : ∀ s, (⟨i, o.dst, r⟩ : En).bx b s = s := by
                intro s
                unfold En.bx
                split
                · rename_i cs hr
                  rw [if_neg fun hd' => hnb (.inl ⟨cs, hr, hd'⟩)]
                · rename_i b' off' cs' hr'
                  rw [if_neg fun hb' => hnb (.inr ⟨off', cs', by have h : r = .set b' off' cs' := hr'; rw [h, hb']⟩)]
                · rfl
              rw [hid]
              refine comp_congr L _ fun e he => ?_
              by_cases hei : e.i = i
              · right
                have : e = ⟨i, o.dst, r⟩ := by
                  obtain ⟨_, _, h2, _⟩ := hent e he
                  rw [hei, hLi] at h2; simpa using h2.symm
                rw [this]; exact hid
              · left; rw [hset, if_neg hei]
          · show _ = (⟨i, o.dst, r⟩ : En).tk S.toks
            rw [foldX_tk, ← hS, foldX_tk]
            by_cases hnb : ∃ t k rows, r = .app t k rows
            · obtain ⟨t, k, rows, hr⟩ := hnb
              rw [hAB]
              refine comp_insert A B ⟨i, o.dst, r⟩ _ hXi (by rw [hset, if_pos rfl]) (fun e he => by rw [hset, if_neg (hne e he).1]) fun e he => ?_
              obtain ⟨hei, heL'⟩ := hne e (by simp [he])
              obtain ⟨oj, h1, _, h3, h4, _⟩ := hent e heL'
              have hgt := hBlt e he
              by_cases hap : ∃ t k rows, e.r = .app t k rows
              · obtain ⟨t', k', rows', hr'⟩ := hap
                left
                show listed.getD e.i false = false
                have w1 : isApp o.op = true := by
                  rcases hstep with ⟨_, hs⟩ | ⟨_, hs⟩
                  · exact (app_of_res hs).1 t k rows hr
                  · rw [hr] at hs; cases hs
                have w2 : isApp oj.op = true := by
                  rcases h4 with ⟨_, hs⟩ | ⟨_, hs⟩
                  · exact (app_of_res hs).1 t' k' rows' hr'
                  · rw [hr'] at hs; cases hs
                rw [hconf e.i oj h1 (by unfold confB; rw [w1, w2]; simp)]
                simp; omega
              · right
                intro s
                unfold En.tk
                split
                · rename_i t' k' rows' hr'; exact absurd ⟨t', k', rows', hr'⟩ hap
                · rfl
            · have hid : ∀ s, (⟨i, o.dst, r⟩ : En).tk s = s := by
                intro s
                unfold En.tk
                split
                · rename_i t' k' rows' hr'; exact absurd ⟨t', k', rows', hr'⟩ hnb
                · rfl
              rw [hid]
              refine comp_congr L _ fun e he => ?_
              by_cases hei : e.i = i
              · right
                have : e = ⟨i, o.dst, r⟩ := by
                  obtain ⟨_, _, h2, _⟩ := hent e he
                  rw [hei, hLi] at h2; simpa using h2.symm
                rw [this]; exact hid
              · left; rw [hset, if_neg hei]
          · rw [hset] at hl
            by_cases hei : e.i = i
            · rw [if_pos hei] at hl; cases hl
            · rw [if_neg hei] at hl
              refine p2 d (hJ2 e he hl cs hr d hd') ?_
              by_cases hn : ∃ cs, r = .new cs
              · right
                intro hd2
                obtain ⟨cs2, hr2⟩ := hn
                exact hei (hsame e he ⟨i, o.dst, r⟩ heL cs cs2 hr hr2 d hd' hd2)
              · left; exact fun cs e => hn ⟨cs, e⟩
          · rw [hset] at hl
            by_cases hei : e.i = i
            · have : e = ⟨i, o.dst, r⟩ := by
                obtain ⟨_, _, h2, _⟩ := hent e he
                rw [hei, hLi] at h2; simpa using h2.symm
              rw [this] at hr
              exact p4 b (p5 b off cs hr)
            · rw [if_neg hei] at hl
              exact p4 b (hJ3 e he hl b off cs hr)
          · rw [hset] at hl
            by_cases hei : e.i = i
            · rw [if_pos hei] at hl; cases hl
            · rw [if_neg hei] at hl
              rcases p3 _ hu with h1 | h1
              · exact hJ4 e he hl h1
              · unfold tokAt at h1; omega
        unfold wpOp
        simp only [ho]
        rcases hstep with ⟨hw, haop⟩ | ⟨hw, rfl⟩
        · -- the operation is wanted
          rw [if_pos (wanted_rel IS ops o (by rw [hwant]; exact hw))]
          left
          have hboxS : isRW o.op = true → ∀ x ∈ o.op.operands.toList, ∀ b off, T.ev x = .loc b off → getA S.boxes b = getA T.boxes b ∧ g1.box b ≠ none := by
            intro hrw x hx b off hxl
            have hgb : g1.box b ≠ none := by
              have := ev_rel IS x
              rw [hev x hx, hxl] at this
              obtain ⟨blk, h1, _⟩ := this
              rw [h1]; simp
            refine ⟨?_, hgb⟩
            have hTb := aop_loc haop hrw hx hxl
            rw [← hS, ← hT, foldX_bx, foldX_bx]
            refine comp_congr L _ fun e he => ?_
            obtain ⟨oj, h1, _, h3, h4, _⟩ := hent e he
            by_cases hnew' : ∃ cs, e.r = .new cs ∧ e.d = some b
            · left
              obtain ⟨cs, hr', hd'⟩ := hnew'
              have hx1 : listed.getD e.i false = true := by
                cases hl : listed.getD e.i false with
                | true => rfl
                | false => exact absurd (hJ2 e he hl cs hr' b hd') hgb
              rw [hx1]
              rcases Nat.lt_or_ge e.i i with hlt | hge
              · simp [hlt]
              · have := hunborn e he cs hr' b hd' i hge
                rw [hT] at this; exact absurd this hTb
            · by_cases hset' : ∃ off cs, e.r = .set b off cs
              · left
                obtain ⟨off', cs', hr'⟩ := hset'
                have w2 : isW oj.op = true := by
                  rcases h4 with ⟨_, hs⟩ | ⟨_, hs⟩
                  · exact ((app_of_res hs).2 b off' cs' hr').1
                  · rw [hr'] at hs; cases hs
                exact hconf e.i oj h1 (by unfold confB; rw [hrw, w2]; simp)
              · right
                intro s
                unfold En.bx
                split
                · rename_i cs' hr'
                  rw [if_neg fun hd' => hnew' ⟨cs', hr', hd'⟩]
                · rename_i b' off' cs' hr'
                  rw [if_neg fun hb' => hset' ⟨off', cs', by rw [hr', hb']⟩]
                · rfl
          have htoks : isApp o.op = true → S.toks = T.toks := by
            intro hap
            rw [← hS, ← hT, foldX_tk, foldX_tk]
            refine comp_congr L _ fun e he => ?_
            obtain ⟨oj, h1, _, h3, h4, _⟩ := hent e he
            by_cases hap' : ∃ t k rows, e.r = .app t k rows
            · left
              obtain ⟨t', k', rows', hr'⟩ := hap'
              have w2 : isApp oj.op = true := by
                rcases h4 with ⟨_, hs⟩ | ⟨_, hs⟩
                · exact (app_of_res hs).1 t' k' rows' hr'
                · rw [hr'] at hs; cases hs
              exact hconf e.i oj h1 (by unfold confB; rw [hap, w2]; simp)
            · right
              intro s
              unfold En.tk
              split
              · rename_i t' k' rows' hr'; exact absurd ⟨t', k', rows', hr'⟩ hap'
              · rfl
          have haopS : aop c.Γ c.eqs c.Δ o.op S.ev S.boxes S.toks = some r := by
            rw [← haop]
            exact aop_congr hev (fun hrw x hx b off hxl => (hboxS hrw x hx b off hxl).1) htoks
          have hsetb : ∀ b off cs, r = .set b off cs → getA S.boxes b = getA T.boxes b ∧ g1.box b ≠ none := by
            intro b off cs hr
            obtain ⟨h1, x, h2, h3⟩ := (app_of_res haop).2 b off cs hr
            have hrw : isRW o.op = true := by unfold isRW; split <;> first | rfl | exact h1
            exact hboxS hrw x h2 b off h3
          obtain ⟨S', hS'⟩ : ∃ S', S.res i o.dst r = some S' := by
            cases r with
            | set b off cs =>
              obtain ⟨h1, _⟩ := hsetb b off cs rfl
              simp only [St.res, h1]
              simp only [St.res] at hres
              cases hb : getA T.boxes b with
              | none => rw [hb] at hres; cases hres
              | some old => exact ⟨_, rfl⟩
            | new cs =>
              cases hdd : o.dst with
              | none => rw [hdd] at hres; cases hres
              | some d => exact ⟨_, rfl⟩
            | app t k rows =>
              cases hdd : o.dst with
              | none => rw [hdd] at hres; cases hres
              | some d => exact ⟨_, rfl⟩
            | _ => exact ⟨_, rfl⟩
          have hap := ap_of_res hS'
          subst hap
          refine op_sound hc.ty hc.eq hc.del haopS (show PutOk c.N i S o.dst r _ by unfold PutOk St.put; rw [if_pos hdst]; exact hS') IS (fun cs hr d hd' => hJ2 _ heL hXi cs hr d hd') (hJ4 _ heL hXi) fun g' a2 w2 I' p2 p3 p4 => ?_
          exact hnext g' a2 w2 I' p2 p3 p4 fun b off cs hr => (hsetb b off cs hr).2
        · -- it is not
          rw [if_neg (by rw [wanted_rel IS ops o (by rw [hwant]; exact hw)]; simp)]
          have hdo : dstOk c.N o.dst := by
            intro x hx
            rw [hx] at hdst
            simpa [dstB] using hdst
          exact hnext g1 _ w' (IS.put hdo (x := .d (.v (.tuple #[]))) (v := undef) (by simp only [RelX, Rel]; rfl)) (fun _ h _ => h) (fun _ h => .inl h) (fun _ h => h) (fun _ _ _ h => by cases h)
    · cases h
  · cases h
end
end Go.Proofs.Ytpkjmnfgpbliaaa
namespace Go.Proofs.Ytpkjmnfgpbliaaa
open Go.RowKit
set_option linter.unusedSimpArgs false
set_option linter.unusedVariables false
set_option linter.unusedSectionVars false

def AEx.out : AEx → Exit
  | .normal => .normal
  | .exit i => .exit i
  | .ret => .ret
/-- Every region of the code that draws its order is looked at. -/
def drawsB : Code → Bool
  | .region _ ops true => drawnB ops.toList
  | .seq a b => drawsB a && drawsB b
  | .cond _ a b => drawsB a && drawsB b
  | .block _ a => drawsB a
  | .loop a => drawsB a
  | .scope a => drawsB a
  | _ => true

section
variable {P : Program} {c : Cx} {m0 : Nat → Nat → Prop} {w0 : World}

theorem iter_sound (b : Code) (ih : ∀ (σ : St) (e : AEx) (σ' : St), c.code b σ = some (e, σ') → ∀ (g : Gh) (a : Act) (w : World), Inv c.N m0 w0 g σ a w → ∀ Q : Exit → Act → World → Prop, (∀ g' a' w', Inv c.N m0 w0 g' σ' a' w' → Q e.out a' w') → b.wp P Q a w) :
    ∀ (n : Nat) (σ : St) (e : AEx) (σ' : St), iter (c.code b) n σ = some (e, σ') → ∀ (g : Gh) (a : Act) (w : World), Inv c.N m0 w0 g σ a w → ∀ Q : Exit → Act → World → Prop, (∀ g' a' w', Inv c.N m0 w0 g' σ' a' w' → Q e.out a' w') → Code.rounds P b Q n a w
  | 0, σ, e, σ', h, g, a, w, I, Q, hQ => by cases h
  | n + 1, σ, e, σ', h, g, a, w, I, Q, hQ => by
    rw [rounds_succ]
    simp only [iter] at h
    split at h
    · rename_i σ1 hs
      exact ih σ .normal σ1 hs g a w I _ fun g' a' w' I' => iter_sound b ih n σ1 e σ' h g' a' w' I' Q hQ
    · rename_i hne
      refine ih σ e σ' h g a w I _ fun g' a' w' I' => ?_
      cases e with
      | normal => exact absurd h (hne σ')
      | exit i => exact hQ g' a' w' I'
      | ret => exact hQ g' a' w' I'

theorem code_sound (hc : CxOk P c) : ∀ (cd : Code) (σ : St) (e : AEx) (σ' : St), c.code cd σ = some (e, σ') → drawsB cd = true → ∀ (g : Gh) (a : Act) (w : World), Inv c.N m0 w0 g σ a w → ∀ Q : Exit → Act → World → Prop, (∀ g' a' w', Inv c.N m0 w0 g' σ' a' w' → Q e.out a' w') → cd.wp P Q a w := by
  intro cd
  induction cd with
  | skip =>
    intro σ e σ' h _ g a w I Q hQ
    simp only [Cx.code, Option.some.injEq, Prod.mk.injEq] at h
    obtain ⟨rfl, rfl⟩ := h
    exact wp_skip (hQ g a w I)
  | label l =>
    intro σ e σ' h _ g a w I Q hQ
    simp only [Cx.code, Option.some.injEq, Prod.mk.injEq] at h
    obtain ⟨rfl, rfl⟩ := h
    exact wp_label (hQ g a w I)
  | region id ops draw =>
    intro σ e σ' h hd g a w I Q hQ
    simp only [Cx.code] at h
    split at h
    · rename_i σ1 hr
      simp only [Option.some.injEq, Prod.mk.injEq] at h
      obtain ⟨rfl, rfl⟩ := h
      cases draw with
      | false => exact region_sound hc hr I hQ
      | true => exact drawn_sound hc hr hd I hQ
    · cases h
  | seq x y ihx ihy =>
    intro σ e σ' h hd g a w I Q hQ
    simp only [drawsB, Bool.and_eq_true] at hd
    simp only [Cx.code] at h
    refine wp_seq ?_
    split at h
    · rename_i σ1 hs
      exact ihx σ .normal σ1 hs hd.1 g a w I _ fun g' a' w' I' => ihy σ1 e σ' h hd.2 g' a' w' I' Q hQ
    · rename_i hne
      refine ihx σ e σ' h hd.1 g a w I _ fun g' a' w' I' => ?_
      cases e with
      | normal => exact absurd h (hne σ')
      | exit i => exact hQ g' a' w' I'
      | ret => exact hQ g' a' w' I'
  | cond x y z ihy ihz =>
    intro σ e σ' h hd g a w I Q hQ
    simp only [drawsB, Bool.and_eq_true] at hd
    simp only [Cx.code] at h
    split at h
    · rename_i t hx
      have hr := ev_rel I x
      rw [hx] at hr
      simp only [RelX, Rel] at hr
      refine wp_cond hr ?_
      cases t with
      | true => exact ihy σ e σ' h hd.1 g a w I Q hQ
      | false => exact ihz σ e σ' h hd.2 g a w I Q hQ
    · cases h
  | block id x ih =>
    intro σ e σ' h hd g a w I Q hQ
    simp only [drawsB] at hd
    simp only [Cx.code] at h
    refine wp_block ?_
    split at h
    · rename_i j σ1 hs
      split at h
      · rename_i hj
        simp only [Option.some.injEq, Prod.mk.injEq] at h
        obtain ⟨rfl, rfl⟩ := h
        refine ih σ _ σ1 hs hd g a w I _ fun g' a' w' I' => ?_
        simp only [AEx.out, Exit.inBlock, hj, if_true]
        exact hQ g' a' w' I'
      · rename_i hj
        simp only [Option.some.injEq, Prod.mk.injEq] at h
        obtain ⟨rfl, rfl⟩ := h
        refine ih σ _ σ1 hs hd g a w I _ fun g' a' w' I' => ?_
        simp only [AEx.out, Exit.inBlock, hj, if_false]
        exact hQ g' a' w' I'
    · rename_i hne
      refine ih σ e σ' h hd g a w I _ fun g' a' w' I' => ?_
      cases e with
      | normal => exact hQ g' a' w' I'
      | exit i => exact absurd h (hne i σ')
      | ret => exact hQ g' a' w' I'
  | loop x ih =>
    intro σ e σ' h hd g a w I Q hQ
    simp only [drawsB] at hd
    simp only [Cx.code] at h
    exact wp_loop_rounds c.F (iter_sound x (fun σ e σ' h g a w I Q hQ => ih σ e σ' h hd g a w I Q hQ) c.F σ e σ' h g a w I Q hQ)
  | rangeFunc f p x y ihx ihy =>
    intro σ e σ' h
    cases h
  | exit i =>
    intro σ e σ' h _ g a w I Q hQ
    simp only [Cx.code, Option.some.injEq, Prod.mk.injEq] at h
    obtain ⟨rfl, rfl⟩ := h
    exact wp_exit (hQ g a w I)
  | scope x ih =>
    intro σ e σ' h hd g a w I Q hQ
    simp only [drawsB] at hd
    simp only [Cx.code] at h
    refine wp_scope_straight (ih σ e σ' h hd g a w I _ fun g' a' w' I' => ?_)
    cases e with
    | normal => exact hQ g' a' w' I'
    | exit i => exact hQ g' a' w' I'
    | ret => exact hQ g' a' w' I'
  | goto l =>
    intro σ e σ' h
    cases h
  | ret =>
    intro σ e σ' h _ g a w I Q hQ
    simp only [Cx.code, Option.some.injEq, Prod.mk.injEq] at h
    obtain ⟨rfl, rfl⟩ := h
    exact wp_ret (hQ g a w I)
  | refuse s =>
    intro σ e σ' h
    cases h

/-- The results of a function. -/
def aRes (Γ : Tys) (σ : St) : List ResultVar → Option (List D)
  | [] => some []
  | .tmp t :: rs => match (σ.ev (.tmp t)).data, aRes Γ σ rs with
    | some d, some ds => some (d :: ds)
    | _, _ => none
  | .cell x T :: rs => match aLoad Γ T (σ.ev (.tmp x)) σ.boxes with
    | some y => match y.data, aRes Γ σ rs with
      | some d, some ds => some (d :: ds)
      | _, _ => none
    | none => none
def oneOf : List D → D
  | [d] => d
  | ds => .tup ds
def argT : Nat → List D → List (Nat × X)
  | _, [] => []
  | i, d :: t => (i, .d d) :: argT (i + 1) t
/-- What a call comes to. -/
def Cx.call (c : Cx) (cd : Code) (rs : List ResultVar) (ds : List D) : Option D :=
  match c.code cd ⟨argT 0 ds, [], []⟩ with
  | some (.exit _, _) => none
  | some (_, σ) => match aRes c.Γ σ rs with
    | some r => some (oneOf r)
    | none => none
  | none => none

def resOne (tmps : Array Value) : ResultVar → Sem Value
  | .tmp t => pure (tmps.getD t undef)
  | .cell a t => do loadVar t (← asAddr (tmps.getD a undef))
theorem aRes_rel (hc : CxOk P c) {g : Gh} {σ : St} {a : Act} {w : World} (I : Inv c.N m0 w0 g σ a w) : ∀ (rs : List ResultVar) (ds : List D), aRes c.Γ σ rs = some ds → ∃ vs : List Value, (rs.mapM (resOne a.tmps)).run P w = .ok vs w ∧ RelL g.imm w ds vs
  | [], ds, h => by
    simp only [aRes, Option.some.injEq] at h; subst h
    exact ⟨[], rfl, by simp [RelL]⟩
  | .tmp t :: rs, ds, h => by
    simp only [aRes] at h
    split at h
    · rename_i d ds' hd hds
      simp only [Option.some.injEq] at h; subst h
      obtain ⟨vs, h1, h2⟩ := aRes_rel hc I rs ds' hds
      refine ⟨a.tmps.getD t undef :: vs, ?_, ?_⟩
      · simp only [List.mapM_cons, resOne, Sem.run_bind, Sem.run_pure, Result.andThen_ok, h1]
      · simp only [RelL]
        exact ⟨_, vs, rfl, RelX.data hd (ev_rel I (.tmp t)), h2⟩
    · cases h
  | .cell x T :: rs, ds, h => by
    simp only [aRes] at h
    split at h
    · rename_i y hy
      split at h
      · rename_i d ds' hd hds
        simp only [Option.some.injEq] at h; subst h
        obtain ⟨vs, h1, h2⟩ := aRes_rel hc I rs ds' hds
        obtain ⟨v, h3, h4⟩ := snd_load hc.ty hy (ev_rel I (.tmp x)) I.boxes
        refine ⟨v :: vs, ?_, ?_⟩
        · have h5 : (loadVar T =<< asAddr (a.tmps.getD x undef)).run P w = .ok v w := by
            have h6 := h3
            unfold Instr.loadAt at h6
            rw [Sem.run_bind] at h6
            show (asAddr (a.tmps.getD x undef) >>= loadVar T).run P w = _
            rw [Sem.run_bind]
            show ((asAddr (a.tmps.getD x undef)).run P w).andThen _ = _
            have h7 : a.eval (.tmp x) = a.tmps.getD x undef := rfl
            rw [h7] at h6
            generalize a.tmps.getD x undef = vx at *
            cases vx with
            | pointer p =>
              cases p with
              | none => simp [Instr.sureAddr, stuck] at h6
              | some ad => simpa [Instr.sureAddr, asAddr] using h6
            | _ => simp [Instr.sureAddr, stuck] at h6
          simp only [List.mapM_cons, resOne, Sem.run_bind, Sem.run_pure, Result.andThen_ok, h1] at h5 ⊢
          have h8 : (asAddr (a.tmps.getD x undef) >>= fun y => loadVar T y).run P w = .ok v w := h5
          rw [Sem.run_bind] at h8
          rw [h8]; simp only [Result.andThen_ok, h1]
        · simp only [RelL]
          exact ⟨_, vs, rfl, RelX.data hd h4, h2⟩
      · cases h
    · cases h

theorem argT_rel {m : Nat → Nat → Prop} {w : World} : ∀ (ds : List D) (vs : List Value) (i : Nat), RelL m w ds vs → ∀ t x, getA (argT i ds) t = some x → ∃ d v, x = .d d ∧ i ≤ t ∧ vs[t - i]? = some v ∧ Rel m w d v
  | [], vs, i, _, t, x, h => by cases h
  | d :: ds, vs, i, hr, t, x, h => by
    simp only [RelL] at hr
    obtain ⟨v, vt, rfl, h1, h2⟩ := hr
    simp only [argT, getA] at h
    by_cases ht : t = i
    · rw [if_pos ht] at h; cases h; subst ht
      exact ⟨d, v, rfl, Nat.le_refl _, by simp, h1⟩
    · rw [if_neg ht] at h
      obtain ⟨d', v', h3, h4, h5, h6⟩ := argT_rel ds vt (i + 1) h2 t x h
      refine ⟨d', v', h3, by omega, ?_, h6⟩
      rw [show t - i = (t - (i + 1)) + 1 by omega]; simpa using h5

theorem pure_of_call (hc : CxOk P c) {f : Nat} {fn : Func} {cd : Code} (hf : P.funcs[f]? = some fn) (hb : fn.body = some cd) (hN : fn.ntmps = c.N) {ds : List D} {d : D} (hl : ds.length ≤ c.N) (hd : drawsB cd = true) (h : c.call cd fn.results.toList ds = some d) : PureC P f ds d := by
  intro m w vs hm hr
  have hvl := hr.length
  refine calls_of_wp hf hb ?_
  have I0 : Inv c.N m w { imm := m, box := fun _ => none, tok := fun _ => none, used := fun _ => False } ⟨argT 0 ds, [], []⟩ { tmps := vs.toArray ++ Array.replicate (fn.ntmps - vs.toArray.size) undef, defers := [] } w := by
    refine ⟨Below.refl _ _, by simp; omega, rfl, hm, fun _ _ h => h, fun _ _ h => .inl h, fun t x hx => ?_, fun i b h => (by cases h), fun i j b h => (by cases h), fun t b h => (by cases h), fun s t b h => (by cases h), fun b cs h => (by cases h)⟩
    obtain ⟨d', v', rfl, _, h5, h6⟩ := argT_rel ds vs 0 hr t x hx
    simp only [Nat.sub_zero] at h5
    have hlt : t < vs.length := (List.getElem?_eq_some_iff.1 h5).1
    have : (vs.toArray ++ Array.replicate (fn.ntmps - vs.toArray.size) undef).getD t undef = v' := by
      rw [Array.getD_eq_getD_getElem?, Array.getElem?_append, if_pos (by simpa using hlt)]
      simp [h5]
    show RelX _ _ _ _ (.d d') _
    rw [this]; exact h6
  unfold Cx.call at h
  split at h
  · cases h
  · rename_i e σ hne hcode
    split at h
    · rename_i r hres
      simp only [Option.some.injEq] at h; subst h
      refine code_sound hc cd _ e σ hcode hd _ _ _ I0 _ fun g' a' w' I' => ?_
      have hfin : a'.defers = [] ∧ ∃ v, (results fn a'.tmps).run P w' = .ok v w' ∧ ∃ (u : Value) (m' : Nat → Nat → Prop), Ending.returned v = .returned u ∧ Below w.heap.size w w' ∧ (∀ b o, m' b o → w.heap.size ≤ b ∧ b < w'.heap.size) ∧ Rel (fun b o => m b o ∨ m' b o) w' (oneOf r) u := by
        refine ⟨I'.defers, ?_⟩
        obtain ⟨us, h1, h2⟩ := aRes_rel hc I' fn.results.toList r hres
        have hmap : (fn.results.mapM (resOne a'.tmps)).run P w' = .ok us.toArray w' := by
          rw [Array.mapM_eq_mapM_toList, Sem.run_map, h1]; rfl
        have hx : ExtM g'.imm w' (fun b o => m b o ∨ (g'.imm b o ∧ w.heap.size ≤ b)) w' := ⟨fun b o h => (I'.new b o h).imp id fun h2 => ⟨h, h2⟩, fun _ _ _ => rfl⟩
        have h2' := RelL.ext hx _ _ h2
        have hrun : (results fn a'.tmps).run P w' = .ok (if h : us.toArray.size = 1 then us.toArray[0] else .tuple us.toArray) w' := by
          have hR : results fn a'.tmps = (fn.results.mapM (resOne a'.tmps) >>= fun vs => pure (if h : vs.size = 1 then vs[0] else .tuple vs)) := rfl
          rw [hR, Sem.run_bind, hmap]; rfl
        refine ⟨_, hrun, _, (fun b o => g'.imm b o ∧ w.heap.size ≤ b), rfl, I'.below, fun b o h => ⟨h.2, I'.lt b o h.1⟩, ?_⟩
        have hlen := h2.length
        cases r with
        | nil =>
          simp only [RelL] at h2'; subst h2'
          simp only [oneOf, Rel]
          exact ⟨[], by simp, by simp [RelL]⟩
        | cons d0 t =>
          simp only [RelL] at h2'
          obtain ⟨u, ut, rfl, k1, k2⟩ := h2'
          cases t with
          | nil =>
            simp only [RelL] at k2; subst k2
            simp only [oneOf]
            simpa using k1
          | cons d1 t' =>
            have hk := k2.length
            have hn1 : ¬ (u :: ut).toArray.size = 1 := by
              rw [List.size_toArray, List.length_cons, hk, List.length_cons]; omega
            rw [dif_neg hn1]
            simp only [oneOf, Rel]
            exact ⟨u :: ut, rfl, by simp only [RelL]; exact ⟨u, ut, rfl, k1, by simpa [RelL] using k2⟩⟩
      cases e with
      | normal => exact hfin
      | exit i => exact absurd rfl (hne i)
      | ret => exact hfin
    · cases h
  · cases h
end
end Go.Proofs.Ytpkjmnfgpbliaaa
