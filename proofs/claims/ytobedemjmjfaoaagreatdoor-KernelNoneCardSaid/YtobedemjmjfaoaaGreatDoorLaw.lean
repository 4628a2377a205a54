/- From a row to the evaluator; rules by which the evaluator is followed. Conditions: none. -/
import Derived.Test.YtobedemjmjfaoaaGreatDoorBridge
import Derived.ChangeStays
import Derived.ReadAgain
import Derived.OpenShut
import Derived.Handed
import Derived.MakeChecks
import Derived.RowKit
namespace Pri
open Go
variable {P : Program}

/-! what is known of some calls is used ahead of their text -/
noncomputable def evO (P : Program) (orc : Inv) : Nat → EvC × Inv
  | 0 => (fun _ _ _ => none, fun _ _ _ _ _ => none)
  | n + 1 => (fun ctx c s => nxE s (evS P (evO P orc n).1 (evO P orc n).2 ctx c s), fun pn dk t args h => match orc pn dk t args h with
    | some r => some r
    | none => nxI h (invA P (evO P orc n).1 (evO P orc n).2 pn dk t args h))

theorem evO_sound (hmix : P.follows .mixedOrders = true) (hfok : FOK P) {orc : Inv} (ho : InvS P orc) : ∀ n, EvS P (evO P orc n).1 ∧ InvS P (evO P orc n).2
  | 0 => by
    refine ⟨?_, ?_⟩
    · intro _ _ _ _ _ h
      cases h
    · intro _ _ _ _ _ _ _ _ h
      cases h
  | n + 1 => by
    obtain ⟨h1, h2⟩ := evO_sound hmix hfok ho n
    refine ⟨fun ctx c s e s' h => ?_, fun pn dk t args H r H' pn' h => ?_⟩
    · obtain ⟨h3, h4⟩ := nxE_some h
      exact ⟨h4, fun ρ w fr cs k hok hr hg htr hm ht => evS_sound (any_sound hmix) h2 h1 h3 hok hr hg htr hm ht⟩
    · simp only [evO] at h
      split at h
      · rename_i r0 hr0
        cases h
        exact ho _ _ _ _ _ _ _ _ hr0
      · obtain ⟨h3, h4⟩ := nxI_some h
        exact ⟨h4, fun ρ w t' args' hr hg ht ha => invA_sound h2 h1 hfok h3 hr hg ht ha⟩

/-- What is found of calls, by what was known. -/
def Just (P : Program) (orc m : Inv) : Prop := ∀ pn dk t a h r, m pn dk t a h = some r → ∃ n, (evO P orc n).2 pn dk t a h = some r

theorem Just.sound (hmix : P.follows .mixedOrders = true) (hfok : FOK P) {orc m : Inv} (ho : InvS P orc) (h : Just P orc m) : InvS P m := by
  intro pn dk t args H r H' pn' hm
  obtain ⟨n, hn⟩ := h _ _ _ _ _ _ hm
  exact (evO_sound hmix hfok ho n).2 _ _ _ _ _ _ _ _ hn

def orElse (a b : Inv) : Inv := fun pn dk t args h => match a pn dk t args h with
  | some r => some r
  | none => b pn dk t args h

theorem InvS.orElse {a b : Inv} (ha : InvS P a) (hb : InvS P b) : InvS P (Pri.orElse a b) := by
  intro pn dk t args H r H' pn' h
  unfold Pri.orElse at h
  split at h
  · rename_i r0 hr
    cases h
    exact ha _ _ _ _ _ _ _ _ hr
  · exact hb _ _ _ _ _ _ _ _ h

def noOrc : Inv := fun _ _ _ _ _ => none
theorem noOrc_sound : InvS P noOrc := by
  intro _ _ _ _ _ _ _ _ h
  cases h

/-- What the evaluator gives of a call, the machine does. -/
theorem callF_calls {ev : EvC} {inv : Inv} (hi : InvS P inv) (he : EvS P ev) (hfok : FOK P) {f : FuncId} {fn : Func} {body : Code} (hf : fnAt P f = some fn) (hb : fn.body = some body) {args : Array Value} {H : Hp} {v : Value} {H' : Hp} {pn' : Option (List PanicEntry)}
    (h : callF P ev inv none false f args H = some (.ret v, H', pn')) {ρ : Rho} {w : World} {args' : Array Value} (hr : HRel P ρ H w) (hg : Gap ρ H H') (ha : VRs ρ args.toList args'.toList) :
    Calls P f args' w fun e w' => ∃ v' ρ', e = .returned v' ∧ VR ρ' v v' ∧ HRel P ρ' H' w' ∧ Ext H ρ w H' ρ' w' := by
  intro cs
  unfold callF at h
  rw [hf] at h
  simp only [hb] at h
  have hpf := fnAt_eq hf
  have fin : ∀ (e1 : EExit) (s1 : Fs) (ch : Option (List PanicEntry)), ev ⟨f, none, false⟩ body ⟨argsTri 0 args.toList .leaf, [], H, none⟩ = some (e1, s1) →
        ((e1 = .normal ∨ e1 = .ret) ∧ ch = none ∨ ∃ c, e1 = .panic c ∧ ch = some c) →
        (match unwindA inv s1.df ch s1.h with
          | some (none, h) => bsel (ch.isNone || allCells fn.results.toList)
            (match resA P s1.tm h fn.results.toList with
            | some vs => some (CRes.ret (tupleOf vs), h, s1.pn)
            | none => none) none
          | some (some c, h) => some (CRes.panic c, h, s1.pn)
          | none => none) = some (CRes.ret v, H', pn') → ∃ e w' fr, (∃ v' ρ', e = .returned v' ∧ VR ρ' v v' ∧ HRel P ρ' H' w' ∧ Ext H ρ w H' ρ' w') ∧ Comes P (lone (Frame.enter P f args' .normal) cs w) (lone fr cs w') e ∧ fr.fn = f ∧ fr.leaving P w' e := by
    intro e1 s1 ch hev hch hfin
    split at hfin
    · rename_i H2 hu
      obtain ⟨hcond, h5⟩ := bsel_some hfin
      split at h5
      · rename_i vs hvs
        simp only [Option.some.injEq, Prod.mk.injEq, CRes.ret.injEq] at h5
        obtain ⟨rfl, rfl, rfl⟩ := h5
        obtain ⟨ρ', w', fr, m, cs', b1, b2, b3, b4, b5, b6, b7, b8, b9⟩ := body_sound hi he hfok hf hb hev hu hch hr hg ha (kd := .normal) rfl (cs := cs) (fun hh => by cases hh)
        have hm : m = .returning := b7
        subst hm
        have hcs : cs' = cs := by rcases b3 with h | ⟨h, _⟩; exact h; cases h
        subst hcs
        have hres := results_run b1 hvs (tmps := fr.tmps) (by
          cases hcn : ch.isNone with
          | true => rw [hcn] at b8; exact .inl (by simpa using b8)
          | false => rw [hcn] at b8 hcond; exact .inr ⟨by simpa using b8, by simpa using hcond⟩)
        obtain ⟨v', h6, h7⟩ := hres
        exact ⟨.returned v', w', { fr with defers := [], mode := .returning }, ⟨v', ρ', rfl, h7, b1, b2⟩, b9, b6, rfl, rfl, b5, fn, by rw [← hpf, ← b6], h6⟩
      · cases h5
    · simp only [Option.some.injEq, Prod.mk.injEq] at hfin
      cases hfin.1
    · cases hfin
  split at h
  · rename_i s1 hev
    exact fin .normal s1 none hev (.inl ⟨.inl rfl, rfl⟩) h
  · rename_i s1 hev
    exact fin .ret s1 none hev (.inl ⟨.inr rfl, rfl⟩) h
  · rename_i ch s1 hev
    exact fin (.panic ch) s1 (some ch) hev (.inr ⟨ch, rfl, rfl⟩) h
  · cases h

/-- What the evaluator gives of a call, the machine does. -/
theorem calls_sound (hmix : P.follows .mixedOrders = true) (hfok : FOK P) {orc : Inv} (ho : InvS P orc) {n : Nat} {f : FuncId} {fn : Func} {body : Code} (hf : fnAt P f = some fn) (hb : fn.body = some body) {args : Array Value} {H : Hp} {v : Value} {H' : Hp} {pn' : Option (List PanicEntry)}
    (h : callF P (evO P orc n).1 (evO P orc n).2 none false f args H = some (.ret v, H', pn')) {ρ : Rho} {w : World} {args' : Array Value} (hr : HRel P ρ H w) (hg : Gap ρ H H') (ha : VRs ρ args.toList args'.toList) :
    Calls P f args' w fun e w' => ∃ v' ρ', e = .returned v' ∧ VR ρ' v v' ∧ HRel P ρ' H' w' ∧ Ext H ρ w H' ρ' w' :=
  callF_calls (evO_sound hmix hfok ho n).2 (evO_sound hmix hfok ho n).1 hfok hf hb h hr hg ha
end Pri

namespace Pri
open Go Go.ChangeShapes Go.WideShapes Go.RowKit
variable {P : Program}

/-! a heap that begins with what is given -/
noncomputable def mkHp (l : List AObj) : Hp := l.foldl (fun h o => h.new o) ⟨.leaf, 0⟩

theorem foldHp : ∀ (l : List AObj) (h : Hp), (l.foldl (fun h o => h.new o) h).nx = h.nx + l.length ∧
    (∀ i, i < h.nx → (l.foldl (fun h o => h.new o) h).get i = h.get i) ∧ (∀ i, i < l.length → (l.foldl (fun h o => h.new o) h).get (h.nx + i) = l[i]?) ∧
    ∀ i, h.nx + l.length ≤ i → (l.foldl (fun h o => h.new o) h).get i = h.get i
  | [], h => ⟨rfl, fun _ _ => rfl, fun i hi => by simp at hi, fun _ _ => rfl⟩
  | o :: l, h => by
    obtain ⟨h1, h2, h3, h4⟩ := foldHp l (h.new o)
    simp only [Hp.nx_new] at h1 h2 h3 h4
    simp only [List.foldl_cons, List.length_cons]
    refine ⟨by rw [h1]; omega, fun i hi => ?_, fun i hi => ?_, fun i hi => ?_⟩
    · rw [h2 i (by omega), Hp.get_new, if_neg (by omega)]
    · cases i with
      | zero => rw [h2 _ (by omega), Hp.get_new]; simp
      | succ i =>
        have := h3 i (by omega)
        rw [show h.nx + (i + 1) = h.nx + 1 + i by omega, this]
        simp
    · rw [h4 i (by omega), Hp.get_new, if_neg (by omega)]

theorem mkHp_nx (l : List AObj) : (mkHp l).nx = l.length := by
  have := (foldHp l ⟨.leaf, 0⟩).1
  simpa [mkHp] using this
theorem mkHp_get (l : List AObj) (i : Nat) : (mkHp l).get i = l[i]? := by
  obtain ⟨_, _, h3, h4⟩ := foldHp l ⟨.leaf, 0⟩
  unfold mkHp
  by_cases h : i < l.length
  · have := h3 i h
    simpa using this
  · rw [h4 i (by simp; omega), List.getElem?_eq_none (by omega)]
    exact Tri.get_leaf i

/-- Objects that are read alone, each with its place. -/
abbrev Ini := List (AObj × Pl)
noncomputable def Ini.hp (I : Ini) : Hp := mkHp (I.map (·.1))
def Ini.rho (I : Ini) : Rho := fun l => (I[l]?).map (·.2)

structure IniOk (P : Program) (I : Ini) (w : World) : Prop where
  ro : ∀ x ∈ I, x.2.ro = true ∧ wrB (some x.1) = false
  obj : ∀ x ∈ I, ∃ ob, w.heap[x.2.blk]? = some ob ∧ OR P I.rho x.1 x.2 ob
  glob : ∀ g, g < P.globals.size → ∃ x, I[g]? = some x ∧ x.2.blk = g ∧ x.2.base = 0

theorem IniOk.hrel {I : Ini} {w : World} (h : IniOk P I w) : HRel P I.rho I.hp w := by
  have nx : I.hp.nx = I.length := by simp [Ini.hp, mkHp_nx]
  have get : ∀ i, I.hp.get i = (I[i]?).map (·.1) := fun i => by simp [Ini.hp, mkHp_get]
  have rho : ∀ {l p}, I.rho l = some p → ∃ o, I[l]? = some (o, p) := by
    intro l p hl
    unfold Ini.rho at hl
    cases hx : I[l]? with
    | none => rw [hx] at hl; cases hl
    | some x =>
      obtain ⟨o, q⟩ := x
      rw [hx] at hl
      simp only [Option.map_some, Option.some.injEq] at hl
      subst hl
      exact ⟨o, rfl⟩
  refine ⟨fun l hl => ?_, fun l p _ hp => ?_, fun l p hp => ?_, fun l l' p p' _ _ hp hp' _ _ _ => .inr ?_, fun g hg => ?_, fun l p _ hp hro => ?_⟩
  · rw [get, List.getElem?_eq_none (by omega)]; rfl
  · obtain ⟨o, ho⟩ := rho hp
    obtain ⟨ob, h1, h2⟩ := h.obj _ (List.mem_of_getElem? ho)
    exact ⟨o, ob, by rw [get, ho]; rfl, h1, h2⟩
  · obtain ⟨o, ho⟩ := rho hp
    obtain ⟨ob, h1, h2⟩ := h.obj _ (List.mem_of_getElem? ho)
    rcases Nat.lt_or_ge p.blk w.heap.size with h3 | h3
    · exact h3
    · rw [Array.getElem?_eq_none h3] at h1; cases h1
  · obtain ⟨o, ho⟩ := rho hp
    obtain ⟨o', ho'⟩ := rho hp'
    exact ⟨(h.ro _ (List.mem_of_getElem? ho)).1, (h.ro _ (List.mem_of_getElem? ho')).1⟩
  · obtain ⟨x, h1, h2, h3⟩ := h.glob g hg
    exact ⟨x.2, by unfold Ini.rho; rw [h1]; rfl, h2, h3⟩
  · obtain ⟨o, ho⟩ := rho hp
    rw [get, ho]
    exact (h.ro _ (List.mem_of_getElem? ho)).2

theorem IniOk.kept {I : Ini} {w w' : World} (h : IniOk P I w) {H' : Hp} {ρ' : Rho} (he : Ext I.hp I.rho w H' ρ' w') : ∀ b, b < w.heap.size → w'.heap[b]? = w.heap[b]? := by
  intro b hb
  refine he.keep b hb fun l p _ hl hro => ?_
  unfold Ini.rho at hl
  cases hx : I[l]? with
  | none => rw [hx] at hl; cases hl
  | some x =>
    rw [hx] at hl
    simp only [Option.map_some, Option.some.injEq] at hl
    subst hl
    have := (h.ro _ (List.mem_of_getElem? hx)).1
    rw [hro] at this; cases this

theorem keptBut_same {w w' : World} {may : MemPlace → Prop} (h : ∀ b, b < w.heap.size → w'.heap[b]? = w.heap[b]?) (ho : w'.os = w.os) (hu : w'.output = w.output) : w.keptBut w' may := by
  refine ⟨ho, hu, fun i hi => ?_⟩
  rw [h i hi]
  cases hx : w.heap[i]? with
  | none => simp
  | some o => cases o <;> simp

section
variable {H : Type} {enc : TypeId × Value → H}

theorem trodAll_stays (hl : laidOutB P = true) (hm : mapsRowed P = true) (hs : ((List.range P.types.size).all fun t => match P.underlying t with | some (.slice e) => decide (0 < P.cellsOf e) | _ => true) = true)
    {w w' : World} {sp : Nat → Bool} : ∀ {ts : List TypeId} {vs : List Value} {ds : List (DataW H)} {ps : List MemPlace}, (∀ t ∈ ts, t < P.types.size) → DataW.TrodAll enc P w 0 (fun _ => true) true ts vs ds ps →
      (∀ p ∈ ps, w.sameAt w' p) → (∀ p ∈ ps, sp p.block = true) → DataW.TrodAll enc P w' 0 sp true ts vs ds ps
  | [], [], [], _, _, h, _, _ => h
  | t :: ts, v :: vs, d :: ds, ps, ht, h, h1, h2 => by
    obtain ⟨p, q, ⟨fu, h3⟩, h4, rfl⟩ := h
    refine ⟨p, q, ⟨fu, ?_⟩, trodAll_stays hl hm hs (fun t h => ht t (List.mem_cons_of_mem _ h)) h4 (fun x hx => h1 x (List.mem_append_right _ hx)) (fun x hx => h2 x (List.mem_append_right _ hx)), rfl⟩
    exact DataW.trod_stays (kids_rows hl hm) (fun {t e} ht he => slices_full_of P hs t e ht he) (fun hh => by cases hh) (ht t List.mem_cons_self) h3 (fun x hx => h1 x (List.mem_append_left _ hx)) (fun x hx => h2 x (List.mem_append_left _ hx))
  | [], _ :: _, _, _, _, h, _, _ => by cases h
  | [], [], _ :: _, _, _, h, _, _ => by cases h
  | _ :: _, [], _, _, _, h, _, _ => by cases h
  | _ :: _, _ :: _, [], _, _, h, _, _ => by cases h

/-- What a law's row asks of the world behind the call. -/
theorem post_true (hl : laidOutB P = true) (hm : mapsRowed P = true) (hs : ((List.range P.types.size).all fun t => match P.underlying t with | some (.slice e) => decide (0 < P.cellsOf e) | _ => true) = true)
    {f : Func} {s : ChangeSpec} {apart : Bool} {w w' : World} {args : Array Value} {ds gs : List (DataW H)} {before : List MemPlace} (hts : ∀ t ∈ f.params.toList, t < P.types.size)
    (hvars : s.vars = []) (hfn : s.fn H (ds ++ gs) = { results := [.lit (.bool true)], args := ds }) {tb : TypeId} (hres : f.resultTypes = #[tb]) (htb : P.underlying tb = some .bool)
    (hW : DataW.Whole enc P f.params.toList s.vars apart w args.toList ds gs before) (h : ∀ b, b < w.heap.size → w'.heap[b]? = w.heap[b]?) (ho : w'.os = w.os) (hu : w'.output = w.output) :
    s.post enc P f apart true false false w args (.bool true) w' := by
  have hW' := hW
  obtain ⟨p, q, hA, hV, rfl, _, _⟩ := hW
  have hlt := hW'.lt
  rw [hvars] at hV
  have hq : q = [] := by
    cases gs with
    | nil => exact hV
    | cons g r => exact absurd hV (by intro h; cases h)
  subst hq
  have same : ∀ x ∈ p ++ [], w.sameAt w' x := by
    intro x hx
    have hb := hlt x hx
    cases x with
    | cell b off =>
      show w'.cell? ⟨b, off, none⟩ = w.cell? ⟨b, off, none⟩
      simp only [World.cell?]
      rw [h b hb]
    | map b => exact h b hb
  refine ⟨ds, gs, p ++ [], [], p, [], hW', ?_, ?_, ?_, keptBut_same h ho hu, fun hh => by cases hh⟩
  · rw [hres, hfn]
    exact trodAll_mk1 (shut_bool htb true)
  · rw [hfn]
    exact trodAll_stays hl hm hs hts hA (fun x hx => same x (by simp [hx])) (fun x hx => by simpa using hlt x (by simp [hx]))
  · rw [hvars, hfn]
    rfl

/-- A row's wrap: what is listed, and the world's shape, at hand. -/
theorem law_wrap {a : Assume} {C : Checked} {os : Os} {f : FuncId} {fn : Func} {s : ChangeSpec} {conds : List PathCond} {apart fresh handsOn again : Bool} {X : World → Array Value → Prop}
    (hX : ∀ (w w' : World) (args : Array Value), w.heap = w'.heap → X w args → X w' args)
    (own : ownKnob C.prog.godebug = none) (started : os.Started) (noInit : C.prog.inits.idxOf? f = none) (hfn : C.prog.funcs[f]? = some fn)
    (witness : ∃ (w : World) (tape : Tape) (i : Input), w.os = os ∧ (w.forCall tape i).Shaped C.prog ∧ i.vars = [] ∧ Input.okWide C.prog (w.forCall tape i) .any w.heap.size f i ∧
      ((s.pre enc C.prog fn conds apart (w.forCall tape i).memory i.args ∧ X (w.forCall tape i).memory i.args) ∧ sizedMet enc C.prog fn (OpenSpec.ofChange s) apart (w.forCall tape i).memory i.args) ∧ a.holds C.prog (lone (Frame.enter C.prog f i.args .normal) [] (w.forCall tape i)))
    (contract : ∀ (W : World) (base : Nat) (args : Array Value) (ds gs : List (DataW H)) (before : List MemPlace),
      (∀ (j : Nat) t v, fn.params[j]? = some t → args[j]? = some v → Value.okWide C.prog W .any base t v) →
      DataW.Whole enc C.prog fn.params.toList s.vars apart W args.toList ds gs before →
      (DataW.weightsEach C.prog (fn.params.toList ++ s.plain.varTypes C.prog) (ds ++ gs)).all (· ≤ reachBytes) = true → X W args → W.ShapedOpen C.prog →
      Calls C.prog f args W fun e W' => ∃ v, e = .returned v ∧ s.post enc C.prog fn apart fresh handsOn again W args v W') :
    ReturnsInHanded a C os f .any (fun w args => (s.pre enc C.prog fn conds apart w args ∧ X w args) ∧ sizedMet enc C.prog fn (OpenSpec.ofChange s) apart w args) (s.post enc C.prog fn apart fresh handsOn again) := by
  refine returnsInHanded_of_calls own started noInit witness ?_
  intro w tape i _ hsh _ hok hpre _
  obtain ⟨_, _, _, fn', hfn', _, _, _, _, hval⟩ := hok
  have e : fn' = fn := Option.some.inj (hfn'.symm.trans hfn)
  subst e
  obtain ⟨⟨⟨ds, gs, before, hw, hc⟩, hx⟩, hz⟩ := hpre
  have hw' := DataW.Whole.of_heap (w' := w.forCall tape i) (by rfl) hw
  refine (contract (w.forCall tape i) w.heap.size i.args ds gs before hval hw' (hz.weights hw) (hX _ _ _ (by rfl) hx) hsh).mono fun e W' ⟨v, he, hp⟩ => ?_
  subst he
  exact ChangeSpec.post_blind hp

/-- A law that the evaluator finds true. -/
theorem law_true (hmix : P.follows .mixedOrders = true) (hfok : FOK P) (hl : laidOutB P = true) (hm : mapsRowed P = true) (hs : ((List.range P.types.size).all fun t => match P.underlying t with | some (.slice e) => decide (0 < P.cellsOf e) | _ => true) = true)
    {orc : Inv} (ho : InvS P orc) {n : Nat} {f : FuncId} {fn : Func} {body : Code} (hf : fnAt P f = some fn) (hb : fn.body = some body) {s : ChangeSpec} {apart : Bool} {w : World} {args : Array Value} {ds gs : List (DataW H)} {before : List MemPlace}
    (hts : ∀ t ∈ fn.params.toList, t < P.types.size) (hvars : s.vars = []) (hfn : s.fn H (ds ++ gs) = { results := [.lit (.bool true)], args := ds }) {tb : TypeId} (hres : fn.resultTypes = #[tb]) (htb : P.underlying tb = some .bool)
    (hW : DataW.Whole enc P fn.params.toList s.vars apart w args.toList ds gs before) {I : Ini} (hI : IniOk P I w) {aargs : Array Value} (ha : VRs I.rho aargs.toList args.toList) {H' : Hp} {pn' : Option (List PanicEntry)}
    (hev : callF P (evO P orc n).1 (evO P orc n).2 none false f aargs I.hp = some (.ret (.bool true), H', pn')) :
    Calls P f args w fun e w' => ∃ v, e = .returned v ∧ s.post enc P fn apart true false false w args v w' := by
  refine (calls_sound hmix hfok ho hf hb hev hI.hrel (fun l h1 _ => ?_) ha).mono fun e w' ⟨v', ρ', he, hv, _, hx⟩ => ?_
  · have : I.hp.nx = I.length := by simp [Ini.hp, mkHp_nx]
    unfold Ini.rho
    rw [List.getElem?_eq_none (by omega)]; rfl
  · cases hv
    exact ⟨_, he, post_true hl hm hs hts hvars hfn hres htb hW (hI.kept hx) hx.os hx.output⟩
end

/-! what is listed -/
theorem laid_of {w : World} {d : DataW Unit} {nm : String} : ∀ {l : List (String × DataW Unit)} {ps : List MemPlace}, DataW.LaidVars P w l ps → (nm, d) ∈ l →
    ∃ g t cs fuel p, P.globalNamed nm = some g ∧ (P.globals[g]?).map (·.type) = some t ∧ w.var? P nm = some cs ∧ DataW.trod (fun _ => ()) P w 0 (fun _ => true) false fuel t cs.toList = some (d, p)
  | [], _, _, h => by cases h
  | (n, d') :: l, ps, hl, h => by
    obtain ⟨g, t, cs, fuel, p, q, h1, h2, h3, h4, h5, _⟩ := hl
    rcases List.mem_cons.mp h with h | h
    · cases h
      exact ⟨g, t, cs, fuel, p, h1, h2, h3, h4⟩
    · exact laid_of h5 h

theorem trod_ints {H : Type} {enc : TypeId × Value → H} {w : World} {base : Nat} {spare : Nat → Bool} {held : Bool} {fuel : Nat} {t e : TypeId} {n : Nat} {k : IntKind} {cs : List Value} {ns : List Int} {ps : List MemPlace} (ht : P.underlying t = some (.array n e)) (he : P.underlying e = some (.int k))
    (hc : P.cellsOf e = 1) (hct : P.cellsOf t = n) (h : DataW.trod enc P w base spare held fuel t cs = some (.agg (ns.map fun x => .lit (.int k x)), ps)) : cs = ns.map (.int k ·) := by
  obtain ⟨xs, m, _, ex, hl, hxl, hel⟩ := DataW.trod_array ht h
  rw [hct] at hl
  simp only [Prod.mk.injEq, DataW.agg.injEq] at ex
  have hlen : ns.length = n := by
    have := congrArg List.length ex.1
    simp at this; omega
  apply List.ext_getElem?
  intro i
  by_cases hi : i < n
  · have h1 := hel i hi
    rw [hc, Nat.mul_one] at h1
    have hx : i < xs.length := by omega
    rw [List.getElem?_eq_getElem hx] at h1
    obtain ⟨z, h2, h3, _⟩ := DataW.trod_int he h1
    have h4 := congrArg (·[i]?) ex.1
    simp only [List.getElem?_map, List.getElem?_eq_getElem hx, List.getElem?_eq_getElem (show i < ns.length by omega), Option.map_some, Option.some.injEq] at h4
    rw [h3] at h4
    simp only [DataW.lit.injEq, Lit.int.injEq, true_and] at h4
    rw [List.getElem?_map, List.getElem?_eq_getElem (show i < ns.length by omega)]
    have h5 : (cs.drop i).take 1 = [cs[i]'(by omega)] := by
      rw [List.drop_eq_getElem_cons (show i < cs.length by omega)]; rfl
    rw [h5] at h2
    simp only [List.cons.injEq, and_true] at h2
    rw [List.getElem?_eq_getElem (by omega), h2, ← h4]; rfl
  · rw [List.getElem?_eq_none (by omega), List.getElem?_eq_none (by simp; omega)]

theorem VRs.ints {ρ : Rho} {k : IntKind} : ∀ (ns : List Int), VRs ρ (ns.map (.int k ·)) (ns.map (.int k ·))
  | [] => .nil
  | _ :: ns => .cons (.int _ _) (VRs.ints ns)

/-- A table of numbers, as it is listed. -/
theorem table_obj {w : World} {l : List (String × DataW Unit)} {ps : List MemPlace} (hl : DataW.LaidVars P w l ps) {nm : String} {k : IntKind} {ns : List Int} (hm : (nm, .agg (ns.map fun x => .lit (.int k x))) ∈ l) {g : Nat} (hg : P.globalNamed nm = some g)
    {t e : TypeId} {n : Nat} (hty : (P.globals[g]?).map (·.type) = some t) (ht : P.underlying t = some (.array n e)) (he : P.underlying e = some (.int k)) (hc : P.cellsOf e = 1) (hct : P.cellsOf t = n)
    (hsh : w.ShapedOpen P) {zero : Array Value} {t' : TypeId} (h0 : ((begin P (fun _ _ => 0) default).world.heap[g]?).bind Obj.row? = some (zero, t')) (hgs : g < P.globals.size) (ρ : Rho) :
    ∃ ob, w.heap[g]? = some ob ∧ OR P ρ (.row (ns.map (.int k ·)) t' .ro) ⟨g, 0, 0, 0, true⟩ ob := by
  obtain ⟨g', t1, cs, fuel, p, h1, h2, h3, h4⟩ := laid_of hl hm
  rw [hg] at h1; cases h1
  rw [hty] at h2; cases h2
  have hcs := trod_ints ht he hc hct h4
  obtain ⟨cs', h5, _, _⟩ := hsh.1 g zero t' hgs h0
  simp only [World.var?, hg, Option.bind_some, h5, Option.some.injEq] at h3
  subst h3
  refine ⟨_, h5, cs', (0, 0), rfl, fun i v hi => ?_, ?_⟩
  · have hv : cs'.toList[i]? = some v := by rw [hcs]; exact hi
    refine ⟨v, by simpa using hv, ?_⟩
    obtain ⟨u, hu1, hu2⟩ := (VRs.ints (ρ := ρ) (k := k) ns).get hi
    rw [hi] at hu1; cases hu1; exact hu2
  · show 0 + (ns.map (Value.int k ·)).length ≤ cs'.size
    rw [← hcs]; simp

theorem dead_obj {w : World} (hsh : w.ShapedOpen P) {g : Nat} {zero : Array Value} {t' : TypeId} (h0 : ((begin P (fun _ _ => 0) default).world.heap[g]?).bind Obj.row? = some (zero, t')) (hgs : g < P.globals.size) (ρ : Rho) :
    ∃ ob, w.heap[g]? = some ob ∧ OR P ρ .dead ⟨g, 0, 0, 0, true⟩ ob := by
  obtain ⟨cs', h5, _, _⟩ := hsh.1 g zero t' hgs h0
  exact ⟨_, h5, trivial⟩
end Pri

namespace Pri
open Go
variable {P : Program}

/-! more rounds change nothing of what is found -/
def LeC (ev ev' : EvC) : Prop := ∀ ctx c s r, ev ctx c s = some r → ev' ctx c s = some r
def LeI (inv inv' : Inv) : Prop := ∀ pn dk t a h r, inv pn dk t a h = some r → inv' pn dk t a h = some r

section
variable {inv inv' : Inv} {ev ev' : EvC}

theorem stepN_le (hi : LeI inv inv') {ctx : Ctx} {d : Option Tmp} {s : Fs} {n : ANext} {h : Hp} {r : Option (List PanicEntry) × Fs} (hh : stepN inv ctx d s n h = some r) : stepN inv' ctx d s n h = some r := by
  cases n <;> try exact hh
  rename_i t args
  simp only [stepN, sCall] at hh ⊢
  cases hv : inv none false t args h with
  | none => rw [hv] at hh; cases hh
  | some x => rw [hv] at hh; rw [hi _ _ _ _ _ _ hv]; exact hh

theorem stepO_le (hi : LeI inv inv') {ctx : Ctx} {o : Oper} {s : Fs} {r : Option (List PanicEntry) × Fs} (hh : stepO P inv ctx o s = some r) : stepO P inv' ctx o s = some r := by
  unfold stepO at hh ⊢
  cases ha : aop P (evalT s.tm) o s.h with
  | none => rw [ha] at hh; cases hh
  | some x =>
    rw [ha] at hh
    obtain ⟨n, h⟩ := x
    simp only at hh ⊢
    obtain ⟨h1, h2⟩ := bsel_some hh
    rw [h1, bsel_true]
    exact stepN_le hi h2

theorem runSeq_le (hi : LeI inv inv') {ctx : Ctx} {ops : Array Oper} : ∀ (l : List Oper) {s : Fs} {r : Option (List PanicEntry) × Fs}, runSeq P inv ctx ops l s = some r → runSeq P inv' ctx ops l s = some r
  | [], _, _, h => h
  | o :: l, s, r, h => by
    unfold runSeq at h ⊢
    cases hw : Region.wanted o (yieldedT ops s.tm) with
    | false => rw [hw] at h; exact runSeq_le hi l h
    | true =>
      rw [hw] at h
      simp only [bsel_true] at h ⊢
      cases hs : stepO P inv ctx o s with
      | none => rw [hs] at h; cases h
      | some x =>
        rw [hs] at h
        rw [stepO_le hi hs]
        obtain ⟨a, s'⟩ := x
        cases a with
        | none => exact runSeq_le hi l h
        | some ch => exact h

theorem runLog_le (hi : LeI inv inv') {ctx : Ctx} {ops : Array Oper} : ∀ (l : List Oper) {i : Nat} {s : Fs} {acc : List Did} {r : Option (List PanicEntry) × Fs × List Did}, runLog P inv ctx ops i l s acc = some r → runLog P inv' ctx ops i l s acc = some r
  | [], _, _, _, _, h => h
  | o :: l, i, s, acc, r, h => by
    unfold runLog at h ⊢
    cases hw : Region.wanted o (yieldedT ops s.tm) with
    | false => rw [hw] at h; exact runLog_le hi l h
    | true =>
      rw [hw] at h
      simp only [bsel_true] at h ⊢
      cases hs : stepO P inv ctx o s with
      | none => rw [hs] at h; cases h
      | some x =>
        rw [hs] at h
        rw [stepO_le hi hs]
        obtain ⟨a, s'⟩ := x
        cases a with
        | none =>
          simp only at h ⊢
          obtain ⟨h1, h2⟩ := bsel_some h
          rw [h1, bsel_true]
          exact runLog_le hi l h2
        | some ch => exact h

theorem runAny_le (hi : LeI inv inv') {ctx : Ctx} {ops : Array Oper} {s : Fs} {r : Option (List PanicEntry) × Fs} (h : runAny P inv ctx ops s = some r) : runAny P inv' ctx ops s = some r := by
  unfold runAny at h ⊢
  simp only at h ⊢
  cases hs : runLog P inv ctx ops 0 ops.toList s [] with
  | none => rw [hs] at h; cases h
  | some x => rw [hs] at h; rw [runLog_le hi _ hs]; exact h

theorem unwindA_le (hi : LeI inv inv') : ∀ (ds : List Deferred) {ch : Option (List PanicEntry)} {h : Hp} {r : Option (List PanicEntry) × Hp}, unwindA inv ds ch h = some r → unwindA inv' ds ch h = some r
  | [], _, _, _, h => h
  | d :: ds, ch, h, r, hh => by
    unfold unwindA at hh ⊢
    split at hh
    · rename_i x hd
      split at hh
      · rename_i hg
        exact unwindA_le hi ds hh
      · cases hh
    · rename_i hno
      cases hv : inv ch true d.target d.args h with
      | none => rw [hv] at hh; cases hh
      | some x =>
        rw [hv] at hh
        rw [hi _ _ _ _ _ _ hv]
        split at hh
        · rename_i v h1 pn1 heq
          cases heq
          split at hh
          · obtain ⟨h1, h2⟩ := bsel_some hh
            rw [h1, bsel_true]
            exact unwindA_le hi ds h2
          · rename_i hpn
            exact unwindA_le hi ds hh
        · rename_i c h1 heq
          cases heq
          exact unwindA_le hi ds hh
        · cases hh

theorem callF_le (hi : LeI inv inv') (he : LeC ev ev') {pn : Option (List PanicEntry)} {dk : Bool} {f : FuncId} {args : Array Value} {h : Hp} {r : CRes × Hp × Option (List PanicEntry)} (hh : callF P ev inv pn dk f args h = some r) : callF P ev' inv' pn dk f args h = some r := by
  unfold callF at hh ⊢
  split at hh
  · rename_i fn hf
    split at hh
    · rename_i body hb
      simp only at hh ⊢
      have fin : ∀ (s1 : Fs) (ch : Option (List PanicEntry)), (match unwindA inv s1.df ch s1.h with
            | some (none, h) => bsel (ch.isNone || allCells fn.results.toList)
              (match resA P s1.tm h fn.results.toList with
              | some vs => some (CRes.ret (tupleOf vs), h, s1.pn)
              | none => none) none
            | some (some c, h) => some (CRes.panic c, h, s1.pn)
            | none => none) = some r → (match unwindA inv' s1.df ch s1.h with
            | some (none, h) => bsel (ch.isNone || allCells fn.results.toList)
              (match resA P s1.tm h fn.results.toList with
              | some vs => some (CRes.ret (tupleOf vs), h, s1.pn)
              | none => none) none
            | some (some c, h) => some (CRes.panic c, h, s1.pn)
            | none => none) = some r := by
        intro s1 ch h1
        cases hu : unwindA inv s1.df ch s1.h with
        | none => rw [hu] at h1; cases h1
        | some x => rw [hu] at h1; rw [unwindA_le hi _ hu]; exact h1
      cases hx : ev ⟨f, none, dk⟩ body ⟨argsTri 0 args.toList .leaf, [], h, pn⟩ with
      | none => rw [hx] at hh; cases hh
      | some x =>
        rw [hx] at hh
        rw [he _ _ _ _ hx]
        obtain ⟨e, s1⟩ := x
        cases e with
        | normal => exact fin _ _ hh
        | ret => exact fin _ _ hh
        | panic ch => exact fin _ _ hh
        | exit id => cases hh
        | goto l => cases hh
    · exact hh
  · cases hh

theorem invA_le (hi : LeI inv inv') (he : LeC ev ev') : LeI (invA P ev inv) (invA P ev' inv') := by
  intro pn dk t args h r hh
  unfold invA at hh ⊢
  split at hh
  · exact callF_le hi he hh
  · rename_i l c
    cases dk with
    | true => cases hh
    | false =>
      simp only [bsel_false] at hh ⊢
      cases hx : roundA P ev l args.toList h with
      | none => rw [hx] at hh; cases hh
      | some x =>
        have : roundA P ev' l args.toList h = some x := by
          unfold roundA at hx ⊢
          split at hx
          · rename_i a1 a2 fn tm params assign body a3 hg
            obtain ⟨h1, h2⟩ := bsel_some hx
            rw [h1, bsel_true]
            cases hy : ev ⟨fn, some l, false⟩ assign ⟨setParams params args.toList tm, [], h, none⟩ with
            | none => rw [hy] at h2; cases h2
            | some y =>
              rw [hy] at h2
              rw [he _ _ _ _ hy]
              split at h2
              · rename_i s heq
                cases heq
                split at h2
                · rename_i b1 b2 b3 b4 b5 b6 b7 hg2
                  cases hz : ev ⟨fn, some l, false⟩ body { s with h := s.h.set l (.loop .busy b1 b2 b3 b4 b5 b6 b7) } with
                  | none => rw [hz] at h2; cases h2
                  | some z => rw [hz] at h2; rw [he _ _ _ _ hz]; exact h2
                · cases h2
              · cases h2
          · cases hx
        rw [hx] at hh
        rw [this]; exact hh
  · split at hh
    · rename_i t v h0
      split at hh
      · rename_i f rv hm
        exact callF_le hi he hh
      · cases hh
    · cases hh
  · cases hh

theorem evS_le (hi : LeI inv inv') (he : LeC ev ev') : LeC (evS P ev inv) (evS P ev' inv') := by
  intro ctx c s r h
  cases c <;> try exact h
  case region id ops draw =>
    simp only [evS, eRegion] at h ⊢
    cases draw with
    | true =>
      simp only [bsel_true] at h ⊢
      cases hx : runAny P inv ctx ops s with
      | none => rw [hx] at h; cases h
      | some x => rw [hx] at h; rw [runAny_le hi hx]; exact h
    | false =>
      simp only [bsel_false] at h ⊢
      cases hx : runSeq P inv ctx ops ops.toList s with
      | none => rw [hx] at h; cases h
      | some x => rw [hx] at h; rw [runSeq_le hi _ hx]; exact h
  case seq a b =>
    simp only [evS, eSeq] at h ⊢
    cases hx : ev ctx a s with
    | none => rw [hx] at h; cases h
    | some x =>
      rw [hx] at h; rw [he _ _ _ _ hx]
      obtain ⟨e, s1⟩ := x
      cases e with
      | normal => exact he _ _ _ _ h
      | ret => exact h
      | panic ch => exact h
      | exit id => exact h
      | goto l => exact h
  case cond c a b =>
    simp only [evS, eCond] at h ⊢
    split at h
    · rename_i t ht
      exact he _ _ _ _ h
    · cases h
  case block id body =>
    simp only [evS, eBlock] at h ⊢
    cases hx : ev ctx body s with
    | none => rw [hx] at h; cases h
    | some x => rw [hx] at h; rw [he _ _ _ _ hx]; exact h
  case loop body =>
    simp only [evS, eLoop] at h ⊢
    cases hx : ev ctx body s with
    | none => rw [hx] at h; cases h
    | some x =>
      rw [hx] at h; rw [he _ _ _ _ hx]
      obtain ⟨e, s1⟩ := x
      cases e with
      | normal => exact he _ _ _ _ h
      | ret => exact h
      | panic ch => exact h
      | exit id => exact h
      | goto l => exact h
  case rangeFunc f params assign body =>
    simp only [evS, eRange] at h ⊢
    split at h
    · rename_i dfs mark h1 fn first cap hst hev
      cases hx : inv none false (.fn fn cap) (first ++ #[.func (.yield h1.nx) #[] #[]]) (h1.new (.loop .ready none ctx.fn s.tm params.toList assign body dfs)) with
      | none => rw [hx] at h; cases h
      | some x => rw [hx] at h; rw [hi _ _ _ _ _ _ hx]; exact h
    · cases h
end

theorem evO_succ {orc : Inv} : ∀ n, LeC (evO P orc n).1 (evO P orc (n + 1)).1 ∧ LeI (evO P orc n).2 (evO P orc (n + 1)).2
  | 0 => ⟨fun _ _ _ _ h => by (cases h), fun _ _ _ _ _ _ h => by (cases h)⟩
  | n + 1 => by
    obtain ⟨h1, h2⟩ := evO_succ n
    refine ⟨fun ctx c s r h => ?_, fun pn dk t a h r hh => ?_⟩
    · obtain ⟨e, s'⟩ := r
      obtain ⟨h3, h4⟩ := nxE_some h
      show nxE s (evS P (evO P orc (n + 1)).1 (evO P orc (n + 1)).2 ctx c s) = _
      rw [evS_le h2 h1 _ _ _ _ h3]
      simp [nxE, Nat.ble_eq_true_of_le h4]
    · obtain ⟨e, h', pn'⟩ := r
      simp only [evO] at hh ⊢
      split at hh
      · exact hh
      · obtain ⟨h3, h4⟩ := nxI_some hh
        have := invA_le h2 h1 _ _ _ _ _ _ h3
        simp only [evO] at this
        rw [this]
        simp [nxI, Nat.ble_eq_true_of_le h4]

theorem evO_le {orc : Inv} {n m : Nat} (h : n ≤ m) : LeC (evO P orc n).1 (evO P orc m).1 ∧ LeI (evO P orc n).2 (evO P orc m).2 := by
  induction h with
  | refl => exact ⟨fun _ _ _ _ h => h, fun _ _ _ _ _ _ h => h⟩
  | step _ ih => exact ⟨fun ctx c s r h => (evO_succ _).1 _ _ _ _ (ih.1 _ _ _ _ h), fun pn dk t a h r hh => (evO_succ _).2 _ _ _ _ _ _ (ih.2 _ _ _ _ _ _ hh)⟩
end Pri

namespace Pri
open Go
variable {P : Program} {orc : Inv}

/-! what the evaluator finds, by rules -/
def Ex (P : Program) (orc : Inv) (ctx : Ctx) (c : Code) (s : Fs) (e : EExit) (s' : Fs) : Prop := ∃ n, (evO P orc n).1 ctx c s = some (e, s')
def Cl (P : Program) (orc : Inv) (pn : Option (List PanicEntry)) (dk : Bool) (t : Target) (args : Array Value) (h : Hp) (r : CRes) (h' : Hp) (pn' : Option (List PanicEntry)) : Prop :=
  ∃ n, (evO P orc n).2 pn dk t args h = some (r, h', pn')
def Rg (P : Program) (orc : Inv) (ctx : Ctx) (ops : Array Oper) (l : List Oper) (s : Fs) (r : Option (List PanicEntry)) (s' : Fs) : Prop :=
  s.h.nx ≤ s'.h.nx ∧ ∃ n, runSeq P (evO P orc n).2 ctx ops l s = some (r, s')

section
variable {ctx : Ctx} {s s1 s2 s' : Fs} {e : EExit} {a b c : Code}

theorem Ex.nx (h : Ex P orc ctx c s e s') : s.h.nx ≤ s'.h.nx := by
  obtain ⟨n, h⟩ := h
  cases n with
  | zero => cases h
  | succ n => exact (nxE_some h).2
theorem Cl.nx {pn pn' : Option (List PanicEntry)} {dk : Bool} {t : Target} {args : Array Value} {h h' : Hp} {r : CRes} (ho : InvS P orc) (hc : Cl P orc pn dk t args h r h' pn') : h.nx ≤ h'.nx := by
  obtain ⟨n, hc⟩ := hc
  cases n with
  | zero => cases hc
  | succ n =>
    simp only [evO] at hc
    split at hc
    · rename_i r0 hr
      cases hc
      exact (ho _ _ _ _ _ _ _ _ hr).1
    · exact (nxI_some hc).2

theorem Ex.up {n m : Nat} (hnm : n ≤ m) (h : (evO P orc n).1 ctx c s = some (e, s')) : (evO P orc m).1 ctx c s = some (e, s') := (evO_le hnm).1 _ _ _ _ h

theorem Ex.of {n : Nat} (hn : s.h.nx ≤ s'.h.nx) (h : evS P (evO P orc n).1 (evO P orc n).2 ctx c s = some (e, s')) : Ex P orc ctx c s e s' :=
  ⟨n + 1, by show nxE s _ = _; rw [h]; simp [nxE, Nat.ble_eq_true_of_le hn]⟩

theorem Ex.skip : Ex P orc ctx .skip s .normal s := Ex.of (n := 0) (Nat.le_refl _) rfl
theorem Ex.label {l : Nat} : Ex P orc ctx (.label l) s .normal s := Ex.of (n := 0) (Nat.le_refl _) rfl
theorem Ex.ret : Ex P orc ctx .ret s .ret s := Ex.of (n := 0) (Nat.le_refl _) rfl
theorem Ex.exit {i : Nat} : Ex P orc ctx (.exit i) s (.exit i) s := Ex.of (n := 0) (Nat.le_refl _) rfl

theorem Ex.seq (h1 : Ex P orc ctx a s .normal s1) (h2 : Ex P orc ctx b s1 e s2) : Ex P orc ctx (.seq a b) s e s2 := by
  have hn := Nat.le_trans h1.nx h2.nx
  obtain ⟨n1, h1⟩ := h1
  obtain ⟨n2, h2⟩ := h2
  refine Ex.of (n := n1 + n2) hn ?_
  simp only [evS, eSeq, Ex.up (Nat.le_add_right n1 n2) h1]
  exact Ex.up (Nat.le_add_left n2 n1) h2
theorem Ex.seqx (h1 : Ex P orc ctx a s e s1) (he : e ≠ .normal) : Ex P orc ctx (.seq a b) s e s1 := by
  have hn := h1.nx
  obtain ⟨n1, h1⟩ := h1
  refine Ex.of (n := n1) hn ?_
  simp only [evS, eSeq, h1]
  cases e <;> first | rfl | exact absurd rfl he
theorem Ex.cond {x : Operand} {t : Bool} (hc : evalT s.tm x = .bool t) (h : Ex P orc ctx (bsel t a b) s e s1) : Ex P orc ctx (.cond x a b) s e s1 := by
  have hn := h.nx
  obtain ⟨n1, h1⟩ := h
  refine Ex.of (n := n1) hn ?_
  simp only [evS, eCond, hc]
  exact h1
theorem Ex.block {id : Nat} (h : Ex P orc ctx a s .normal s1) : Ex P orc ctx (.block id a) s .normal s1 := by
  have hn := h.nx
  obtain ⟨n1, h1⟩ := h
  refine Ex.of (n := n1) hn ?_
  simp only [evS, eBlock, h1]
theorem Ex.blockx {id : Nat} (h : Ex P orc ctx a s (.exit id) s1) : Ex P orc ctx (.block id a) s .normal s1 := by
  have hn := h.nx
  obtain ⟨n1, h1⟩ := h
  refine Ex.of (n := n1) hn ?_
  simp [evS, eBlock, h1]
theorem Ex.blocke {id i : Nat} (h : Ex P orc ctx a s (.exit i) s1) (hi : Nat.beq i id = false) : Ex P orc ctx (.block id a) s (.exit i) s1 := by
  have hn := h.nx
  obtain ⟨n1, h1⟩ := h
  refine Ex.of (n := n1) hn ?_
  simp only [evS, eBlock, h1, hi, bsel_false]
theorem Ex.blockr {id : Nat} (h : Ex P orc ctx a s .ret s1) : Ex P orc ctx (.block id a) s .ret s1 := by
  have hn := h.nx
  obtain ⟨n1, h1⟩ := h
  refine Ex.of (n := n1) hn ?_
  simp only [evS, eBlock, h1]
theorem Ex.loop (h1 : Ex P orc ctx a s .normal s1) (h2 : Ex P orc ctx (.loop a) s1 e s2) : Ex P orc ctx (.loop a) s e s2 := by
  have hn := Nat.le_trans h1.nx h2.nx
  obtain ⟨n1, h1⟩ := h1
  obtain ⟨n2, h2⟩ := h2
  refine Ex.of (n := n1 + n2) hn ?_
  simp only [evS, eLoop, Ex.up (Nat.le_add_right n1 n2) h1]
  exact Ex.up (Nat.le_add_left n2 n1) h2
theorem Ex.loopx (h1 : Ex P orc ctx a s e s1) (he : e ≠ .normal) : Ex P orc ctx (.loop a) s e s1 := by
  have hn := h1.nx
  obtain ⟨n1, h1⟩ := h1
  refine Ex.of (n := n1) hn ?_
  simp only [evS, eLoop, h1]
  cases e <;> first | rfl | exact absurd rfl he
end

section
variable {ctx : Ctx} {ops : Array Oper} {l : List Oper} {o : Oper} {s s' : Fs} {r : Option (List PanicEntry)}

theorem Ex.region {id : Nat} (h : Rg P orc ctx ops ops.toList s none s') : Ex P orc ctx (.region id ops false) s .normal s' := by
  obtain ⟨hn, n, h⟩ := h
  refine Ex.of (n := n) hn ?_
  simp only [evS, eRegion, bsel_false, h]

theorem Rg.nil : Rg P orc ctx ops [] s none s := ⟨Nat.le_refl _, 0, rfl⟩
theorem Rg.val {v : Value} {h : Hp} (hw : Region.wanted o (yieldedT ops s.tm) = true) (ha : aop P (evalT s.tm) o s.h = some (.val v, h)) (hn : Nat.ble s.h.nx h.nx = true)
    (ht : Rg P orc ctx ops l ⟨tput s.tm o.dst v, s.df, h, s.pn⟩ r s') : Rg P orc ctx ops (o :: l) s r s' := by
  obtain ⟨h1, n, h2⟩ := ht
  refine ⟨Nat.le_trans (Nat.le_of_ble_eq_true hn) h1, n, ?_⟩
  simp only [runSeq, hw, bsel_true, stepO, ha, hn, stepN, sVal]
  exact h2
theorem Rg.put {h : Hp} (hw : Region.wanted o (yieldedT ops s.tm) = true) (ha : aop P (evalT s.tm) o s.h = some (.skip, h)) (hn : Nat.ble s.h.nx h.nx = true)
    (ht : Rg P orc ctx ops l ⟨tput s.tm o.dst undef, s.df, h, s.pn⟩ r s') : Rg P orc ctx ops (o :: l) s r s' := by
  obtain ⟨h1, n, h2⟩ := ht
  refine ⟨Nat.le_trans (Nat.le_of_ble_eq_true hn) h1, n, ?_⟩
  simp only [runSeq, hw, bsel_true, stepO, ha, hn, stepN, sVal]
  exact h2
theorem Rg.call {t : Target} {args : Array Value} {v : Value} {h h' : Hp} {pn' : Option (List PanicEntry)} (hw : Region.wanted o (yieldedT ops s.tm) = true) (ha : aop P (evalT s.tm) o s.h = some (.call t args, h)) (hn : Nat.ble s.h.nx h.nx = true)
    (hc : Cl P orc none false t args h (.ret v) h' pn') (hn' : h.nx ≤ h'.nx) (ht : Rg P orc ctx ops l ⟨tput s.tm o.dst v, s.df, h', s.pn⟩ r s') : Rg P orc ctx ops (o :: l) s r s' := by
  obtain ⟨h1, n, h2⟩ := ht
  obtain ⟨m, hc⟩ := hc
  refine ⟨Nat.le_trans (Nat.le_of_ble_eq_true hn) (Nat.le_trans hn' h1), n + m, ?_⟩
  simp only [runSeq, hw, bsel_true, stepO, ha, hn, stepN, sCall, (evO_le (Nat.le_add_left m n)).2 _ _ _ _ _ _ hc]
  exact runSeq_le (evO_le (Nat.le_add_right n m)).2 _ h2
theorem Rg.off (hw : Region.wanted o (yieldedT ops s.tm) = false) (ht : Rg P orc ctx ops l (skipO o s) r s') : Rg P orc ctx ops (o :: l) s r s' := by
  obtain ⟨h1, n, h2⟩ := ht
  refine ⟨h1, n, ?_⟩
  simp only [runSeq, hw, bsel_false]
  exact h2
end

/-! a region that draws its order, in which no read may see what it should not -/
noncomputable def okStat (ops : Array Oper) : Bool :=
  let b := Region.before ops
  let es := effs ops.toList 0
  ops.toList.zipIdx.all fun (o, i) => !isRead o.op || (es ++ [ops.size]).all fun T => !verOk b es i T || own es i T

def Lg (P : Program) (orc : Inv) (ctx : Ctx) (ops : Array Oper) (i : Nat) (l : List Oper) (s s' : Fs) : Prop :=
  s.h.nx ≤ s'.h.nx ∧ ∃ n, ∀ acc, ∃ log, runLog P (evO P orc n).2 ctx ops i l s acc = some (none, s', acc.reverse ++ log) ∧ (∀ d ∈ log, ∃ j, d.i = i + j ∧ l[j]? = some d.o)

section
variable {ctx : Ctx} {ops : Array Oper} {l : List Oper} {o : Oper} {s s' : Fs} {i : Nat}
theorem Lg.nil : Lg P orc ctx ops i [] s s := ⟨Nat.le_refl _, 0, fun acc => ⟨[], by simp [runLog], fun d h => by cases h⟩⟩

theorem Lg.cons_mem {i : Nat} {o : Oper} {l : List Oper} {log : List Did} {d0 : Did} (hi : d0.i = i) (ho : d0.o = o) (h : ∀ d ∈ log, ∃ j, d.i = i + 1 + j ∧ l[j]? = some d.o) : ∀ d ∈ d0 :: log, ∃ j, d.i = i + j ∧ (o :: l)[j]? = some d.o := by
  intro d hd
  rcases List.mem_cons.mp hd with rfl | hd
  · exact ⟨0, by omega, by simp [ho]⟩
  · obtain ⟨j, h1, h2⟩ := h d hd
    exact ⟨j + 1, by omega, by simpa using h2⟩

theorem Lg.val {v : Value} {h : Hp} (hw : Region.wanted o (yieldedT ops s.tm) = true) (ha : aop P (evalT s.tm) o s.h = some (.val v, h)) (hn : Nat.ble s.h.nx h.nx = true) (hg : (!isRead o.op || Nat.beq h.nx s.h.nx) = true)
    (ht : Lg P orc ctx ops (i + 1) l ⟨tput s.tm o.dst v, s.df, h, s.pn⟩ s') : Lg P orc ctx ops i (o :: l) s s' := by
  obtain ⟨h1, n, h2⟩ := ht
  refine ⟨Nat.le_trans (Nat.le_of_ble_eq_true hn) h1, n, fun acc => ?_⟩
  obtain ⟨log, h3, h4⟩ := h2 (⟨i, o, s, bsel (isRead o.op) (o.dst.bind ((tput s.tm o.dst v).get ·)) none, true⟩ :: acc)
  refine ⟨_ :: log, ?_, Lg.cons_mem (d0 := ⟨i, o, s, bsel (isRead o.op) (o.dst.bind ((tput s.tm o.dst v).get ·)) none, true⟩) rfl rfl h4⟩
  simp only [runLog, hw, bsel_true, stepO, ha, hn, stepN, sVal, hg]
  rw [h3]; simp
theorem Lg.call {t : Target} {args : Array Value} {v : Value} {h h' : Hp} {pn' : Option (List PanicEntry)} (hw : Region.wanted o (yieldedT ops s.tm) = true) (ha : aop P (evalT s.tm) o s.h = some (.call t args, h)) (hn : Nat.ble s.h.nx h.nx = true)
    (hc : Cl P orc none false t args h (.ret v) h' pn') (hn' : h.nx ≤ h'.nx) (hr : isRead o.op = false) (ht : Lg P orc ctx ops (i + 1) l ⟨tput s.tm o.dst v, s.df, h', s.pn⟩ s') : Lg P orc ctx ops i (o :: l) s s' := by
  obtain ⟨h1, n, h2⟩ := ht
  obtain ⟨m, hc⟩ := hc
  refine ⟨Nat.le_trans (Nat.le_of_ble_eq_true hn) (Nat.le_trans hn' h1), n + m, fun acc => ?_⟩
  obtain ⟨log, h3, h4⟩ := h2 (⟨i, o, s, none, true⟩ :: acc)
  refine ⟨_ :: log, ?_, Lg.cons_mem (d0 := ⟨i, o, s, none, true⟩) rfl rfl h4⟩
  simp only [runLog, hw, bsel_true, stepO, ha, hn, stepN, sCall, (evO_le (Nat.le_add_left m n)).2 _ _ _ _ _ _ hc, hr, bsel_false, Bool.not_false, Bool.true_or]
  rw [runLog_le (evO_le (Nat.le_add_right n m)).2 _ h3]; simp
theorem Lg.off (hw : Region.wanted o (yieldedT ops s.tm) = false) (ht : Lg P orc ctx ops (i + 1) l (skipO o s) s') : Lg P orc ctx ops i (o :: l) s s' := by
  obtain ⟨h1, n, h2⟩ := ht
  refine ⟨h1, n, fun acc => ?_⟩
  obtain ⟨log, h3, h4⟩ := h2 (⟨i, o, s, none, false⟩ :: acc)
  refine ⟨_ :: log, ?_, Lg.cons_mem (d0 := ⟨i, o, s, none, false⟩) rfl rfl h4⟩
  simp only [runLog, hw, bsel_false]
  rw [h3]; simp

theorem Ex.draw {id : Nat} (hok : okStat ops = true) (h : Lg P orc ctx ops 0 ops.toList s s') : Ex P orc ctx (.region id ops true) s .normal s' := by
  obtain ⟨hn, n, h⟩ := h
  obtain ⟨log, h1, h2⟩ := h []
  simp only [List.reverse_nil, List.nil_append] at h1
  refine Ex.of (n := n) hn ?_
  have hc : log.all (checkDid P (Region.before ops) (effs ops.toList 0) (vers log [(ops.size, s'.h)])) = true := by
    refine List.all_eq_true.mpr fun d hd => ?_
    obtain ⟨j, h3, h4⟩ := h2 d hd
    unfold checkDid
    cases hr : (d.on && isRead d.o.op) with
    | false => rfl
    | true =>
      simp only [bsel_true]
      refine List.all_eq_true.mpr fun (T, h) hT => ?_
      have hT' : T ∈ effs ops.toList 0 ++ [ops.size] := by
        unfold vers at hT
        rcases List.mem_append.mp hT with hT | hT
        · obtain ⟨d', h5, h6⟩ := List.mem_map.mp hT
          obtain ⟨h7, h8⟩ := List.mem_filter.mp h5
          obtain ⟨j', h9, h10⟩ := h2 d' h7
          simp only [Prod.mk.injEq] at h6
          refine List.mem_append_left _ ?_
          rw [effs_mem]
          exact ⟨j', d'.o, by omega, h10, h8⟩
        · simp only [List.mem_singleton, Prod.mk.injEq] at hT
          simp [hT.1]
      unfold okStat at hok
      simp only at hok
      have h5 := List.all_eq_true.mp hok (d.o, j) (by rw [List.mem_zipIdx_iff_getElem?]; exact h4)
      simp only [Bool.and_eq_true] at hr
      simp only [hr.2, Bool.not_true, Bool.false_or] at h5
      have h6 := List.all_eq_true.mp h5 T hT'
      rw [h3, Nat.zero_add]
      simp only [h6, Bool.true_or]
  simp only [evS, eRegion, bsel_true, runAny, h1, hc]
end

/-- A call of a function by its body. -/
theorem Cl.of {pn : Option (List PanicEntry)} {dk : Bool} {f : FuncId} {cap args : Array Value} {h h' : Hp} {r : CRes} {pn' : Option (List PanicEntry)} {n : Nat} (ho : orc pn dk (.fn (.func f) cap) args h = none) (hn : h.nx ≤ h'.nx)
    (hc : callF P (evO P orc n).1 (evO P orc n).2 pn dk f (args ++ cap) h = some (r, h', pn')) : Cl P orc pn dk (.fn (.func f) cap) args h r h' pn' := by
  refine ⟨n + 1, ?_⟩
  simp only [evO, ho, invA, hc, nxI, Nat.ble_eq_true_of_le hn, bsel_true]

theorem callF_of {pn : Option (List PanicEntry)} {dk : Bool} {f : FuncId} {fn : Func} {body : Code} (hf : fnAt P f = some fn) (hb : fn.body = some body) {args : Array Value} {h : Hp} {e : EExit} {s' : Fs} (he : e = .normal ∨ e = .ret)
    (hx : Ex P orc ⟨f, none, dk⟩ body ⟨argsTri 0 args.toList .leaf, [], h, pn⟩ e s') (hd : s'.df = []) {vs : List Value} (hv : resA P s'.tm s'.h fn.results.toList = some vs) :
    ∃ n, callF P (evO P orc n).1 (evO P orc n).2 pn dk f args h = some (.ret (tupleOf vs), s'.h, s'.pn) := by
  obtain ⟨n, hx⟩ := hx
  refine ⟨n, ?_⟩
  unfold callF
  simp only [hf, hb]
  rcases he with rfl | rfl <;> simp [hx, hd, unwindA, hv]

/-- A plain function: what comes of its body. -/
theorem Cl.body {pn : Option (List PanicEntry)} {dk : Bool} {f : FuncId} {fn : Func} {body : Code} {cap args : Array Value} {h : Hp} (ho : orc pn dk (.fn (.func f) cap) args h = none) (hf : fnAt P f = some fn) (hb : fn.body = some body) {e : EExit} {s' : Fs} (he : e = .normal ∨ e = .ret)
    (hx : Ex P orc ⟨f, none, dk⟩ body ⟨argsTri 0 (args ++ cap).toList .leaf, [], h, pn⟩ e s') (hd : s'.df = []) {vs : List Value} (hv : resA P s'.tm s'.h fn.results.toList = some vs) :
    Cl P orc pn dk (.fn (.func f) cap) args h (.ret (tupleOf vs)) s'.h s'.pn := by
  have hn := hx.nx
  obtain ⟨n, hc⟩ := callF_of hf hb he hx hd hv
  exact Cl.of ho hn hc
end Pri

namespace Pri
open Go
variable {P : Program}

/-! calls on plain data, found once and for all -/
def plainD : Nat → Value → Bool
  | 0, _ => false
  | _ + 1, .bool _ => true
  | _ + 1, .int _ _ => true
  | _ + 1, .string _ => true
  | n + 1, .agg c => c.toList.all (plainD n)
  | n + 1, .tuple c => c.toList.all (plainD n)
  | _ + 1, .pointer none => true
  | _ + 1, .slice none 0 0 => true
  | _ + 1, .nilIface => true
  | _ + 1, _ => false

mutual
theorem plainD_eq {ρ : Rho} : ∀ (n : Nat) {v v' : Value}, plainD n v = true → VR ρ v v' → v' = v
  | 0, _, _, h, _ => by cases h
  | n + 1, v, v', h, hv => by
    cases hv with
    | agg hc =>
      rename_i c c'
      have := plainDs_eq n (List.all_eq_true.mp h) hc
      rw [Array.toList_inj.mp this]
    | tuple hc =>
      rename_i c c'
      have := plainDs_eq n (List.all_eq_true.mp h) hc
      rw [Array.toList_inj.mp this]
    | bool => rfl
    | int => rfl
    | string => rfl
    | ptrNil => rfl
    | sliceNil => rfl
    | nilIface => rfl
    | ptr => cases h
    | slice => cases h
    | sliceU => cases h
    | mapNil => cases h
    | map => cases h
    | func => cases h
    | yield => cases h
    | nilFunc => cases h
    | iface => cases h
theorem plainDs_eq {ρ : Rho} : ∀ (n : Nat) {l l' : List Value}, (∀ x ∈ l, plainD n x = true) → VRs ρ l l' → l' = l
  | _, _, _, _, .nil => rfl
  | n, _, _, h, .cons hv ht => by rw [plainD_eq n (h _ List.mem_cons_self) hv, plainDs_eq n (fun x hx => h x (List.mem_cons_of_mem _ hx)) ht]
end

mutual
theorem plainD_rel {ρ : Rho} : ∀ (n : Nat) {v : Value}, plainD n v = true → VR ρ v v
  | 0, _, h => by cases h
  | n + 1, v, h => by
    unfold plainD at h
    split at h
    · cases h
    · exact .bool _
    · exact .int _ _
    · exact .string _
    · exact .agg (plainDs_rel _ (List.all_eq_true.mp h))
    · exact .tuple (plainDs_rel _ (List.all_eq_true.mp h))
    · exact .ptrNil
    · exact .sliceNil
    · exact .nilIface
    · cases h
theorem plainDs_rel {ρ : Rho} : ∀ (n : Nat) {l : List Value}, (∀ x ∈ l, plainD n x = true) → VRs ρ l l
  | _, [], _ => .nil
  | n, x :: l, h => .cons (plainD_rel n (h _ List.mem_cons_self)) (plainDs_rel n fun x hx => h x (List.mem_cons_of_mem _ hx))
end

/-- Is what is known of a heap there? -/
noncomputable def thereB (h : Hp) : Nat → List AObj → Bool
  | _, [] => true
  | i, .row c e .ro :: l => (match h.get i with
    | some (.row c' e' .ro) => veqs 100 c c' && Nat.beq e e'
    | _ => false) && thereB h (i + 1) l
  | i, .dead :: l => thereB h (i + 1) l
  | _, _ :: _ => false

theorem thereB_get {h : Hp} : ∀ {i : Nat} {l : List AObj}, thereB h i l = true → ∀ j o, l[j]? = some o → o = .dead ∨ ∃ c e, o = .row c e .ro ∧ h.get (i + j) = some o
  | i, [], _, j, o, hj => by simp at hj
  | i, x :: l, ht, j, o, hj => by
    have key : thereB h (i + 1) l = true ∧ (x = .dead ∨ ∃ c e, x = .row c e .ro ∧ h.get i = some x) := by
      cases x with
      | dead => exact ⟨ht, .inl rfl⟩
      | row c e g =>
        cases g with
        | ro =>
          simp only [thereB, Bool.and_eq_true] at ht
          refine ⟨ht.2, .inr ⟨c, e, rfl, ?_⟩⟩
          have h2 := ht.1
          split at h2
          · rename_i c' e' hg
            simp only [Bool.and_eq_true] at h2
            rw [hg, veqs_eq _ _ _ h2.1, Nat.eq_of_beq_eq_true h2.2]
          · cases h2
        | exact => cases ht
        | grow n => cases ht
        | sish n => cases ht
      | map es c => cases ht
      | iter m s e t => cases ht
      | loop a b c d e f g i => cases ht
      | deferred c => cases ht
    cases j with
    | succ j =>
      have := thereB_get key.1 j o (by simpa using hj)
      rw [show i + (j + 1) = i + 1 + j by omega]; exact this
    | zero =>
      simp only [List.getElem?_cons_zero, Option.some.injEq] at hj
      subst hj
      exact key.2

/-- What is given of the variables: tables of plain data, read alone. -/
def glI (l : List AObj) : Ini := l.zipIdx.map fun (o, g) => (o, ⟨g, 0, 0, 0, true⟩)

def plainRows (l : List AObj) : Bool := l.all fun
  | .row c _ .ro => c.all (plainD 5)
  | .dead => true
  | _ => false

theorem VRs.of_plain {ρ ρ' : Rho} {n : Nat} {v v' : Value} (h : plainD n v = true) (hv : VR ρ v v') : VR ρ' v v' := by
  rw [plainD_eq n h hv]; exact plainD_rel n h

theorem glI_ok {l : List AObj} (hsz : l.length = P.globals.size) (hp : plainRows l = true) {ρ : Rho} {H : Hp} {w : World} (hr : HRel P ρ H w) (hnx : P.globals.size ≤ H.nx) (ht : thereB H 0 l = true) : IniOk P (glI l) w := by
  have mem : ∀ x ∈ glI l, ∃ g, l[g]? = some x.1 ∧ x.2 = ⟨g, 0, 0, 0, true⟩ ∧ g < P.globals.size := by
    intro x hx
    unfold glI at hx
    obtain ⟨⟨o, g⟩, h1, rfl⟩ := List.mem_map.mp hx
    rw [List.mem_zipIdx_iff_getElem?] at h1
    refine ⟨g, h1, rfl, ?_⟩
    rw [← hsz]
    rcases Nat.lt_or_ge g l.length with h | h
    · exact h
    · rw [List.getElem?_eq_none h] at h1; cases h1
  refine ⟨fun x hx => ?_, fun x hx => ?_, fun g hg => ?_⟩
  · obtain ⟨g, h1, h2, _⟩ := mem x hx
    refine ⟨by rw [h2], ?_⟩
    rcases thereB_get ht g x.1 h1 with h | ⟨c, e, h, _⟩ <;> rw [h] <;> rfl
  · obtain ⟨g, h1, h2, h3⟩ := mem x hx
    obtain ⟨p, hp1, hp2, hp3⟩ := hr.glob g h3
    obtain ⟨o1, ob, h4, h5, h6⟩ := hr.obj g p (by omega) hp1
    rw [h2]
    refine ⟨ob, by rw [← hp2]; exact h5, ?_⟩
    rcases thereB_get ht g x.1 h1 with h | ⟨c, e, h, h7⟩
    · rw [h]; trivial
    · rw [Nat.zero_add, h4] at h7
      cases h7
      rw [h] at h6 ⊢
      obtain ⟨C, fr, h8, h9, h10⟩ := h6
      have hpl := List.all_eq_true.mp hp x.1 (List.mem_of_getElem? h1)
      rw [h] at hpl
      simp only at hpl
      refine ⟨C, fr, h8, fun i v hi => ?_, ?_⟩
      · obtain ⟨v', a, b⟩ := h9 i v hi
        rw [hp3] at a
        exact ⟨v', a, VRs.of_plain (List.all_eq_true.mp hpl v (List.mem_of_getElem? hi)) b⟩
      · have h10 : p.base + c.length ≤ C.size := h10
        show 0 + c.length ≤ C.size
        omega
  · refine ⟨(l[g]'(by omega), ⟨g, 0, 0, 0, true⟩), ?_, rfl, rfl⟩
    unfold glI
    rw [List.getElem?_map, List.getElem?_zipIdx, List.getElem?_eq_getElem (by omega)]
    simp

theorem HRel.same {ρ : Rho} {H : Hp} {w w' : World} (hr : HRel P ρ H w) (h : ∀ b, b < w.heap.size → w'.heap[b]? = w.heap[b]?) (hs : w.heap.size ≤ w'.heap.size) : HRel P ρ H w' where
  fresh := hr.fresh
  obj := fun l p hl hp => by
    obtain ⟨o, ob, h1, h2, h3⟩ := hr.obj l p hl hp
    exact ⟨o, ob, h1, by rw [h _ (hr.bnd l p hp)]; exact h2, h3⟩
  bnd := fun l p hp => Nat.lt_of_lt_of_le (hr.bnd l p hp) hs
  inj := hr.inj
  glob := hr.glob
  prot := hr.prot

/-- A call of a function on plain data that answers plain data, whatever is in memory. -/
noncomputable def closedOrc (l : List AObj) (f : FuncId) (args : List Value) (v : Value) : Inv := fun pn dk t a h => match dk, t with
  | false, .fn (.func g) cap => bsel (Nat.beq g f && cap.isEmpty && veqs 100 a.toList args && Nat.ble l.length h.nx && thereB h 0 l) (some (.ret v, h, pn)) none
  | _, _ => none

theorem closedOrc_sound {inv : Inv} (hi : InvS P inv) {l : List AObj} (hsz : l.length = P.globals.size) (hp : plainRows l = true) {f : FuncId} {args : List Value} (hpa : args.all (plainD 20) = true) {v : Value} (hpv : plainD 20 v = true)
    {H' : Hp} {pn' : Option (List PanicEntry)} (hev : inv none false (.fn (.func f) #[]) args.toArray (glI l).hp = some (.ret v, H', pn')) : InvS P (closedOrc l f args v) := by
  intro pn dk t a H r H2 pn2 h
  unfold closedOrc at h
  split at h
  · rename_i g cap
    obtain ⟨hc, h⟩ := bsel_some h
    simp only [Option.some.injEq, Prod.mk.injEq] at h
    obtain ⟨rfl, rfl, rfl⟩ := h
    simp only [Bool.and_eq_true] at hc
    obtain ⟨⟨⟨⟨h1, h2⟩, h3⟩, h4⟩, h5⟩ := hc
    have h1 := Nat.eq_of_beq_eq_true h1
    subst h1
    have h2 : cap = #[] := by simpa using h2
    subst h2
    have h3 := veqs_eq _ _ _ h3
    refine ⟨Nat.le_refl _, fun ρ w t' args' hr hg ht ha => ?_⟩
    have hI := glI_ok hsz hp hr (by rw [← hsz]; exact Nat.le_of_ble_eq_true h4) h5
    have hargs : args'.toList = args := by
      rw [h3] at ha
      exact plainDs_eq 20 (List.all_eq_true.mp hpa) ha
    have ht' : t' = .fn (.func g) #[] := by
      cases ht with
      | @fn _ _ c' hn hcap =>
        have := hcap.length
        simp at this
        rw [show c' = #[] by simpa using this.symm]
    obtain ⟨_, hcall⟩ := hi _ _ _ _ _ _ _ _ hev
    have hcs := hcall (glI l).rho w t' args' hI.hrel (fun x h1 _ => by
      have : (glI l).hp.nx = (glI l).length := by simp [Ini.hp, mkHp_nx]
      unfold Ini.rho
      rw [List.getElem?_eq_none (by omega)]; rfl) (by rw [ht']; exact .fn (fun _ => nofun) .nil) (by rw [hargs]; exact plainDs_rel 20 (List.all_eq_true.mp hpa))
    have fin : ∀ {ρ1 : Rho} {w1 : World}, Ext (glI l).hp (glI l).rho w H' ρ1 w1 → HRel P ρ H w1 ∧ Ext H ρ w H ρ w1 := by
      intro ρ1 w1 he
      have hk := hI.kept he
      exact ⟨hr.same hk he.size, ⟨Nat.le_refl _, fun _ _ h => h, fun l h1 h2 => by omega, fun _ _ h => .inl h, he.size, he.os, he.output, he.tape, fun b hb _ => hk b hb⟩⟩
    rcases hcs with ⟨v1, v1', w1, ρ1, e1, _, e2, e3, e4, e5⟩ | ⟨w0, F, hE, hF, _⟩
    · cases e1
      obtain ⟨a1, a2⟩ := fin e5
      exact .inl ⟨v, v1', w1, ρ, rfl, rfl, e2, VRs.of_plain hpv e3, a1, a2⟩
    · refine .inr ⟨w0, F, hE, fun _ c cs => ?_, fun hd => by cases hd⟩
      obtain ⟨ρ1, w1, fr, b1, b2, b3, b4⟩ := hF rfl c cs
      obtain ⟨v1', b5, b6⟩ := b3
      obtain ⟨a1, a2⟩ := fin b2
      exact ⟨ρ, w1, fr, a1, a2, ⟨v1', VRs.of_plain hpv b5, b6⟩, b4⟩
  · cases h
end Pri

namespace Pri
open Go Go.ChangeShapes Go.WideShapes Go.RowKit

section
variable {H : Type} {enc : TypeId × Value → H}
/-- One input that fits. -/
theorem law_witness {C : Checked} {os : Os} {f : FuncId} {fn : Func} {s : ChangeSpec} {conds : List PathCond} {apart : Bool} {X : World → Array Value → Prop} (w0 : World) (args : Array Value) (fuel : Nat) (hos : w0.os = os)
    (hsh : (w0.forCall (fun _ _ => 0) ⟨#[], args, []⟩).Shaped C.prog)
    (hok : Input.okWideB C.prog (w0.forCall (fun _ _ => 0) ⟨#[], args, []⟩) f ⟨#[], args, []⟩ = true)
    (hpre : s.preB enc C.prog fn conds apart (w0.forCall (fun _ _ => 0) ⟨#[], args, []⟩).memory args fuel = true)
    (hsz : s.sizedB enc C.prog fn apart (w0.forCall (fun _ _ => 0) ⟨#[], args, []⟩).memory args fuel = true)
    (hx : X (w0.forCall (fun _ _ => 0) ⟨#[], args, []⟩).memory args) :
    ∃ (w : World) (tape : Tape) (i : Input), w.os = os ∧ (w.forCall tape i).Shaped C.prog ∧ i.vars = [] ∧ Input.okWide C.prog (w.forCall tape i) .any w.heap.size f i ∧
      ((s.pre enc C.prog fn conds apart (w.forCall tape i).memory i.args ∧ X (w.forCall tape i).memory i.args) ∧ sizedMet enc C.prog fn (OpenSpec.ofChange s) apart (w.forCall tape i).memory i.args) ∧ ({} : Assume).holds C.prog (lone (Frame.enter C.prog f i.args .normal) [] (w.forCall tape i)) :=
  ⟨w0, fun _ _ => 0, ⟨#[], args, []⟩, hos, hsh, (Input.okWide_of_okWideB (base := 0) hok).1, (Input.okWide_of_okWideB hok).2, ⟨⟨ChangeSpec.pre_of_preB hpre, hx⟩, sizedMet_of_sizedB hsz⟩, by
    simp [Assume.holds]⟩
end

/-- Does a call come to this value? -/
def retB (v : Value) (r : Option (CRes × Hp × Option (List PanicEntry))) : Bool := match r with
  | some (.ret u, _, _) => veq 100 u v
  | _ => false
theorem retB_eq {v : Value} {r : Option (CRes × Hp × Option (List PanicEntry))} (h : retB v r = true) : ∃ H' pn', r = some (.ret v, H', pn') := by
  unfold retB at h
  split at h
  · rw [veq_eq _ _ _ h]; exact ⟨_, _, rfl⟩
  · cases h

variable {P : Program}
theorem closed_of (hmix : P.follows .mixedOrders = true) (hfok : FOK P) {orc : Inv} (ho : InvS P orc) {l : List AObj} (hsz : l.length = P.globals.size) (hp : plainRows l = true) {f : FuncId} {args : List Value} (hpa : args.all (plainD 20) = true) {v : Value} (hpv : plainD 20 v = true)
    {n : Nat} (h : retB v ((evO P orc n).2 none false (.fn (.func f) #[]) args.toArray (glI l).hp) = true) : InvS P (closedOrc l f args v) := by
  obtain ⟨H', pn', h⟩ := retB_eq h
  exact closedOrc_sound (evO_sound hmix hfok ho n).2 hsz hp hpa hpv h

theorem fok_of (h : (P.funcs.toList.all fun f => okFunc P.globals.size f) = true) : FOK P := fun f fn hf => by
  have h1 := fnAt_eq hf
  exact List.all_eq_true.mp h fn (by simpa using Array.mem_of_getElem? h1)
end Pri

