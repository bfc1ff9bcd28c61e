/- Parts of the proof, one after another; what each part shows stands at its head. No conditions. -/
import Derived.Test.YtonbafpfcmlnlaaDoorL2
import Derived.LoopN
set_option linter.all false

/- The abstract machine, 18: one instruction, calls with it. -/
namespace Go.Am
variable {P : Program} {G : Nat → V} {ρ ρ0 : Ren} {h : Heap} {w w0 : World} {N : Nat} {a : Tm} {act : Act} {ops : Array Oper} {Q : Exit → Act → World → Prop}

def Enter (P : Program) (f : FuncId) : Prop := ∃ fn, P.funcs[f]? = some fn ∧ fn.body.isNone = false ∧ (fn.name == "runtime.NumGoroutine") = false

def Vs (ρ : Ren) (w : World) (args : List V) (vs : Array Value) : Prop := vs.size = args.length ∧ ∀ (j : Nat) (u : V), args[j]? = some u → RV ρ w u (vs.getD j Go.undef)

/-- What a call's end is. -/
def Ends (G : Nat → V) (ρ : Ren) (w : World) (R : V → Heap → Prop) : Ending → World → Prop
  | .returned v, w' => ∃ ρ' h' x, R x h' ∧ Step ρ w ρ' w' ∧ Rel G ρ' h' w' ∧ RV ρ' w' x v
  | _, _ => False

/-- A call comes back, and R holds of what it gives and of the memory behind it. -/
def Calls0 (P : Program) (G : Nat → V) (f : FuncId) (args : List V) (h : Heap) (R : V → Heap → Prop) : Prop :=
  Enter P f ∧ ∀ ρ w vs, Rel G ρ h w → Vs ρ w args vs → Calls P f vs w (Ends G ρ w R)

theorem Calls0.mono {f : FuncId} {args : List V} {R R' : V → Heap → Prop} (c : Calls0 P G f args h R) (m : ∀ x h', R x h' → R' x h') : Calls0 P G f args h R' := by
  refine ⟨c.1, fun ρ w vs r v => Calls.mono (c.2 ρ w vs r v) (fun e w' q => ?_)⟩
  cases e with
  | returned v =>
    obtain ⟨ρ', h', x, q1, q2⟩ := q
    exact ⟨ρ', h', x, m _ _ q1, q2⟩
  | _ => exact q

/-- A state that the abstract one describes. -/
def Good (G : Nat → V) (N : Nat) (ρ0 : Ren) (w0 : World) (K : Tm → Heap → Prop) (act : Act) (w : World) : Prop :=
  ∃ ρ h a, Step ρ0 w0 ρ w ∧ Rel G ρ h w ∧ ActOk ρ w N a act ∧ K a h

theorem Good.mono {K K' : Tm → Heap → Prop} (g : Good G N ρ0 w0 K act w) (m : ∀ a h, K a h → K' a h) : Good G N ρ0 w0 K' act w := by
  obtain ⟨ρ, h, a, q1, q2, q3, q4⟩ := g
  exact ⟨ρ, h, a, q1, q2, q3, m _ _ q4⟩

theorem ActOk.mono {ρ' : Ren} {w' : World} (A : ActOk ρ w N a act) (l : Le ρ w ρ' w') : ActOk ρ' w' N a act := ⟨A.size, A.defers, fun t => (A.rv t).mono l⟩

theorem ActOk.put (A : ActOk ρ w N a act) {d : Option Nat} (hd : d.all (· < N) = true) {v : V} {x : Value} (r : RV ρ w v x) : ActOk ρ w N (updO a d v) (act.put d x) := by
  cases d with
  | none => exact A
  | some d =>
    simp only [Option.all_some, decide_eq_true_eq] at hd
    refine ⟨by simp [Act.put, A.size], A.defers, fun t => ?_⟩
    simp only [updO, upd]
    by_cases e : t = d
    · subst e
      rw [if_pos rfl]
      have : (act.put (some t) x).tmps.getD t Go.undef = x := by simp [Act.put, A.size, hd]
      rw [this]
      exact r
    · rw [if_neg e]
      have : (act.put (some d) x).tmps.getD t Go.undef = act.tmps.getD t Go.undef := by
        simp [Act.put, Array.getD_eq_getD_getElem?, Array.getElem?_setIfInBounds_ne (Ne.symm e)]
      rw [this]
      exact A.rv t

theorem freeze_still (R : Rel G ρ h w) {v v' : V} {h' : Heap} {x : Value} (r : RV ρ w v x) (hs : freezeV h v = some (v', h')) : ∃ ρ', Step ρ w ρ' w ∧ Rel G ρ' h' w ∧ RV ρ' w v' x :=
  freeze_sound R r hs w (fun _ _ _ _ _ _ _ _ _ => ⟨fun _ _ => rfl, fun _ _ e => ⟨(0, 0), e⟩⟩) (fun _ => rfl) rfl rfl rfl rfl

theorem putD_sound {fz : List Nat} {ins : Ins} {K : Tm → Heap → Prop} (st : Step ρ0 w0 ρ w) (R : Rel G ρ h w) (A : ActOk ρ w N a act) (hd : ins.dst.all (· < N) = true) {v : V} {x : Value} (r : RV ρ w v x) (hp : putD G fz ins K a v h) :
    Good G N ρ0 w0 K (act.put ins.dst x) w := by
  unfold putD at hp
  split at hp
  · rename_i e
    rw [e]
    exact ⟨ρ, h, a, st, R, A, hp.2⟩
  · rename_i d e
    rw [e] at hd
    split at hp
    · split at hp
      · rename_i v' h' hf
        obtain ⟨ρ', st', R', r'⟩ := freeze_still R r hf
        have := (A.mono st'.toLe).put (d := some d) hd r'
        rw [e]
        exact ⟨ρ', h', _, st.trans st', R', this, hp.2⟩
      · exact hp.elim
    · rw [e]
      exact ⟨ρ, h, _, st, R, A.put (d := some d) hd r, hp.2⟩

theorem gen_sound {fz : List Nat} {ins : Ins} {K : Tm → Heap → Prop} {o : Oper} {op : I} (st : Step ρ0 w0 ρ w) (R : Rel G ρ h w) (A : ActOk ρ w N a act) (hd : ins.dst.all (· < N) = true) (hdst : o.dst = ins.dst) (hc : cOp P o.op = some op)
    (hw : match stepI G a h op with | some (v, h') => putD G fz ins K a v h' | none => False) : o.wp P act w (Good G N ρ0 w0 K) Q := by
  split at hw
  · rename_i v h' hs
    obtain ⟨nx, x, w', ρ', e1, e2, e3, e4, e5⟩ := op_sound1 R A hc hs
    have g := putD_sound (st.trans e3) e4 (A.mono e3.toLe) hd e5 hw
    unfold Oper.wp
    rw [e1]
    cases nx with
    | value u =>
      simp only [nextV, Option.some.injEq] at e2
      subst e2
      rw [Oper.upon_value, hdst]
      exact g
    | skip =>
      simp only [nextV, Option.some.injEq] at e2
      subst e2
      rw [Oper.upon_skip, hdst]
      exact g
    | _ => cases e2
  · exact hw.elim

def plainI : I → Bool
  | .call .. | .callv .. | .isnil .. => false
  | _ => true

theorem cBuiltin_plain {b : Builtin} {args : List Operand} {ts : Array TypeId} {i : I} (e : cBuiltin P b args ts = some i) (hp : plainI i = false) : False := by
  simp only [cBuiltin] at e
  (repeat' split at e) <;> first
    | (cases e; done)
    | (injection e with e; subst e; cases hp; done)
    | (obtain ⟨_, _, q⟩ := map2 e; subst q; cases hp; done)

theorem cCall_inv {op : Op} {f : FuncId} {args : List Opd} (e : cOp P op = some (.call f args)) : ∃ c, op = .call c ∧ c.callee = .value (.func f) ∧ cOpds c.args.toList = some args ∧ Enter P f := by
  cases op with
  | call c =>
    refine ⟨c, rfl, ?_⟩
    simp only [cOp, cCall] at e
    split at e
    · rename_i g ys e1 e2
      split at e
      · rename_i fn e3
        split at e
        · rename_i e4
          injection e with e
          injection e with e5 e6
          subst e5 e6
          simp only [Bool.and_eq_true, bne_iff_ne, ne_eq] at e4
          exact ⟨e1, e2, fn, e3, by simpa [Option.isSome_iff_ne_none] using e4.1, by simpa using e4.2⟩
        · cases e
      · cases e
    · obtain ⟨y, _, h2⟩ := map2 e
      cases h2
    · exact (cBuiltin_plain e rfl).elim
    · cases e
  | _ =>
    exfalso
    simp only [cOp, cEq] at e
    (repeat' split at e) <;> first | contradiction | (cases e; done) | (obtain ⟨_, _, q⟩ := map2 e; cases q; done)

theorem cCallv_inv {op : Op} {x : Opd} {args : List Opd} (e : cOp P op = some (.callv x args)) : ∃ c y, op = .call c ∧ c.callee = .value y ∧ cOpd y = some x ∧ cOpds c.args.toList = some args := by
  cases op with
  | call c =>
    simp only [cOp, cCall] at e
    split at e
    · exfalso
      (repeat' split at e) <;> cases e
    · rename_i y ys e0 e1 e2
      obtain ⟨z, h1, h2⟩ := map2 e
      injection h2 with h2 h3
      subst h2 h3
      exact ⟨c, y, rfl, by assumption, h1, by assumption⟩
    · exact (cBuiltin_plain e rfl).elim
    · cases e
  | _ =>
    exfalso
    simp only [cOp, cEq] at e
    (repeat' split at e) <;> first | contradiction | (cases e; done) | (obtain ⟨_, _, q⟩ := map2 e; cases q; done)

theorem cNil_inv {op : Op} {neg : Bool} {x : Opd} (e : cOp P op = some (.isnil neg x)) : ∃ t ty y z el, op = .binOp (if neg then .neq else .eql) t y z ty ∧ P.underlying t = some (.slice el) ∧ cOpd y = some x ∧ cOpd z = some (.c .nil) := by
  have inv : ∀ {n : Bool} {t : TypeId} {y z : Operand}, cEq P n t y z = some (.isnil neg x) → n = neg ∧ ∃ el, P.underlying t = some (.slice el) ∧ cOpd y = some x ∧ cOpd z = some (.c .nil) := by
    intro n t y z e
    unfold cEq at e
    split at e
    all_goals first
      | (rename_i e1 e2 e3
         injection e with e
         injection e with e4 e5
         subst e4 e5
         exact ⟨rfl, _, e1, e2, e3⟩)
      | (exfalso; (repeat' split at e) <;> cases e)
  cases op with
  | binOp bop t y z ty =>
    by_cases h1 : bop = .eql
    · subst h1
      simp only [cOp] at e
      obtain ⟨rfl, el, q⟩ := inv e
      exact ⟨t, ty, y, z, el, rfl, q⟩
    · by_cases h2 : bop = .neq
      · subst h2
        simp only [cOp] at e
        obtain ⟨rfl, el, q⟩ := inv e
        exact ⟨t, ty, y, z, el, rfl, q⟩
      · exfalso
        have e' : (match cOpd y, cOpd z with | some a, some b => some (I.bin bop a b) | _, _ => none) = some (.isnil neg x) := by
          cases bop <;> first | exact absurd rfl h1 | exact absurd rfl h2 | exact e
        split at e' <;> simp_all
  | call c =>
    exfalso
    simp only [cOp, cCall] at e
    split at e
    · (repeat' split at e) <;> cases e
    · obtain ⟨_, _, q⟩ := map2 e
      cases q
    · exact (cBuiltin_plain e rfl).elim
    · cases e
  | _ =>
    exfalso
    simp only [cOp] at e
    (repeat' split at e) <;> first | contradiction | (cases e; done) | (obtain ⟨_, _, q⟩ := map2 e; cases q; done)

theorem nil_const {z : Operand} (e : cOpd z = some (.c .nil)) : act.eval z = .slice none 0 0 := by
  unfold cOpd at e
  split at e
  · cases e
  · rename_i v
    obtain ⟨y, h1, h2⟩ := map2 e
    injection h2 with h2
    subst h2
    unfold cV at h1
    split at h1
    · obtain ⟨_, _, q⟩ := map2 h1
      cases q
    · unfold cOne at h1
      split at h1 <;> first | rfl | (cases h1; done)
  · cases e
  · cases e

theorem Vs.of (R : Rel G ρ h w) (A : ActOk ρ w N a act) {xs : Array Operand} {ys : List Opd} (e : cOpds xs.toList = some ys) : Vs ρ w (ys.map (·.ev G a)) (xs.map act.eval) := by
  obtain ⟨hl, hv⟩ := evs_sound R A e
  refine ⟨by simp [hl], fun j u hu => ?_⟩
  obtain ⟨v, h1, h2⟩ := hv j u hu
  have : (xs.map act.eval).getD j Go.undef = v := by
    have : (xs.map act.eval)[j]? = some v := by simpa using h1
    simp [Array.getD_eq_getD_getElem?, this]
  rw [this]
  exact h2

theorem Vs.append {xs ys : List V} {us vs : Array Value} (r1 : Vs ρ w xs us) (r2 : Vs ρ w ys vs) : Vs ρ w (xs ++ ys) (us ++ vs) := by
  refine ⟨by simp [r1.1, r2.1], fun j u hu => ?_⟩
  by_cases hj : j < xs.length
  · rw [List.getElem?_append_left hj] at hu
    have := r1.2 j u hu
    have e : (us ++ vs).getD j Go.undef = us.getD j Go.undef := by
      rw [Array.getD_eq_getD_getElem?, Array.getD_eq_getD_getElem?, Array.getElem?_append_left (by rw [r1.1]; exact hj)]
    rw [e]
    exact this
  · rw [List.getElem?_append_right (by omega)] at hu
    have := r2.2 _ u hu
    have e : (us ++ vs).getD j Go.undef = vs.getD (j - xs.length) Go.undef := by
      rw [Array.getD_eq_getD_getElem?, Array.getD_eq_getD_getElem?, Array.getElem?_append_right (by rw [r1.1]; omega), r1.1]
    rw [e]
    exact this

theorem enter_sound {fz : List Nat} {ins : Ins} {K : Tm → Heap → Prop} {o : Oper} {f : FuncId} {args : List V} {vs : Array Value} (st : Step ρ0 w0 ρ w) (R : Rel G ρ h w) (A : ActOk ρ w N a act) (hd : ins.dst.all (· < N) = true) (hdst : o.dst = ins.dst)
    (he : Enter P f → (execOp act.eval o).run P w = .ok (.enter f vs) w) (hv : Vs ρ w args vs) (hw : Calls0 P G f args h (putD G fz ins K a)) : o.wp P act w (Good G N ρ0 w0 K) Q := by
  unfold Oper.wp
  rw [he hw.1, Oper.upon_enter]
  refine Calls.mono (hw.2 ρ w vs R hv) (fun e w' q => ?_)
  cases e with
  | returned v =>
    obtain ⟨ρ', h', x, q1, q2, q3, q4⟩ := q
    rw [hdst]
    exact putD_sound (st.trans q2) q3 (A.mono q2.toLe) hd q4 q1
  | _ => exact q.elim

theorem op1usound {fz : List Nat} {ins : Ins} {K : Tm → Heap → Prop} {o : Oper} (st : Step ρ0 w0 ρ w) (R : Rel G ρ h w) (A : ActOk ρ w N a act) (hd : ins.dst.all (· < N) = true) (hdst : o.dst = ins.dst) (hc : cOp P o.op = some ins.op)
    (hw : wpOp1 (Calls0 P G) G fz ins K a h) : o.wp P act w (Good G N ρ0 w0 K) Q := by
  cases hop : ins.op with
  | call f args =>
    rw [hop] at hc
    obtain ⟨c, e1, e2, e3, _⟩ := cCall_inv hc
    simp only [wpOp1, hop] at hw
    refine enter_sound st R A hd hdst (fun hE => ?_) (Vs.of R A e3) hw
    obtain ⟨fn, q1, q2, q3⟩ := hE
    have q2 : fn.body ≠ none := fun e => by rw [e] at q2; cases q2
    have q3 : fn.name ≠ "runtime.NumGoroutine" := by simpa using q3
    simp [execOp, e1, resolve, e2, Act.eval, Deferred.ofValue, invoke, callFunc, q1, q2, q3]
  | callv x args =>
    rw [hop] at hc
    obtain ⟨c, y, e1, e2, e3, e4⟩ := cCallv_inv hc
    simp only [wpOp1, hop] at hw
    split at hw
    · rename_i f caps hf
      have hy := ev_sound R A e3
      rw [hf] at hy
      generalize hu : act.eval y = u at hy
      cases hy with
      | fn _ _ vs hl hv =>
        refine enter_sound st R A hd hdst (fun hE => ?_) ((Vs.of R A e4).append ⟨hl, hv⟩) hw
        obtain ⟨fn, q1, q2, q3⟩ := hE
        have q2 : fn.body ≠ none := fun e => by rw [e] at q2; cases q2
        have q3 : fn.name ≠ "runtime.NumGoroutine" := by simpa using q3
        simp [execOp, e1, resolve, e2, hu, Deferred.ofValue, invoke, callFunc, q1, q2, q3]
    · exact hw.elim
  | isnil neg x =>
    rw [hop] at hc
    obtain ⟨t, ty, y, z, el, e1, e2, e3, e4⟩ := cNil_inv hc
    have hy := ev_sound R A e3
    have fin : (∃ q, Snd P G ρ w act o (.bool (neg != q)) h ∧ putD G fz ins K a (.bool (neg != q)) h) → o.wp P act w (Good G N ρ0 w0 K) Q := by
      rintro ⟨q, ⟨nx, x, w', ρ', g1, g2, g3, g4, g5⟩, hp⟩
      have g := putD_sound (st.trans g3) g4 (A.mono g3.toLe) hd g5 hp
      unfold Oper.wp
      rw [g1]
      cases nx with
      | value u =>
        simp only [nextV, Option.some.injEq] at g2
        subst g2
        rw [Oper.upon_value, hdst]
        exact g
      | skip =>
        simp only [nextV, Option.some.injEq] at g2
        subst g2
        rw [Oper.upon_skip, hdst]
        exact g
      | _ => cases g2
    simp only [wpOp1, hop] at hw
    split at hw
    · rename_i hb
      rw [hb] at hy
      obtain ⟨q, s, _⟩ := sound_isnil R e1 e2 (nil_const e4) hy (.inr (.inr rfl))
      exact fin ⟨q, s, hw _⟩
    · rename_i hb
      rw [hb] at hy
      obtain ⟨q, s, _⟩ := sound_isnil R e1 e2 (nil_const e4) hy (.inl ⟨_, rfl⟩)
      exact fin ⟨q, s, hw _⟩
    · rename_i u us hb
      rw [hb] at hy
      obtain ⟨q, s, hq⟩ := sound_isnil R e1 e2 (nil_const e4) hy (.inl ⟨_, rfl⟩)
      have : q = false := by
        cases q with
        | false => rfl
        | true => rcases hq rfl with e | e <;> cases e
      subst this
      exact fin ⟨false, s, by simpa using hw⟩
    · rename_i o' off len room hb
      rw [hb] at hy
      obtain ⟨q, s, hq⟩ := sound_isnil R e1 e2 (nil_const e4) hy (.inr (.inl ⟨_, _, _, _, rfl⟩))
      have : q = false := by
        cases q with
        | false => rfl
        | true => rcases hq rfl with e | e <;> cases e
      subst this
      exact fin ⟨false, s, by simpa using hw⟩
    · exact hw.elim
  | _ =>
    simp only [wpOp1, hop] at hw
    rw [hop] at hc
    exact gen_sound (fz := fz) (ins := ins) (K := K) st R A hd hdst hc hw

theorem cIns_inv {o : Oper} {j : Ins} (e : cIns P N ops o = some j) : cOp P o.op = some j.op ∧ cGuard ops o.guard = some j.g ∧ j.dst = o.dst ∧ j.dst.all (· < N) = true := by
  unfold cIns at e
  split at e
  · rename_i i g e1 e2
    split at e
    · rename_i e3
      injection e with e
      subst e
      exact ⟨e1, e2, rfl, e3⟩
    · cases e
  · cases e

theorem one_sound {fz : List Nat} {j ins : Ins} {K : Tm → Heap → Prop} {o : Oper} {i : Nat} (hi : ops[i]? = some o) (hj : cIns P N ops o = some j) (hins : ins.op = j.op ∧ ins.g = j.g ∧ ins.dst = j.dst)
    (st : Step ρ0 w0 ρ w) (R : Rel G ρ h w) (A : ActOk ρ w N a act) (hw : wpI (Calls0 P G) G fz ins K a h) : wpOp P ops Q i (Good G N ρ0 w0 K) act w := by
  obtain ⟨e1, e2, e3, e4⟩ := cIns_inv hj
  obtain ⟨h1, h2, h3⟩ := hins
  have hdst : o.dst = ins.dst := by rw [h3, e3]
  unfold wpI at hw
  split at hw
  · rename_i hg
    unfold wpOp
    rw [hi]
    simp only
    rw [h2] at hg
    have hwant : Region.wanted o (yielded ops act.tmps) = true := by
      unfold Region.wanted
      cases hgo : o.guard with
      | none => rfl
      | some p =>
        obtain ⟨q, b⟩ := p
        rw [hgo, hg] at e2
        simp only [cGuard] at e2
        obtain ⟨_, _, q⟩ := map2 e2
        cases q
    rw [if_pos hwant]
    exact .inl (op1usound st R A (by rw [h3]; exact e4) hdst (by rw [h1]; exact e1) hw)
  · rename_i t b hg
    rw [h2] at hg
    cases hgo : o.guard with
    | none => rw [hgo, hg] at e2; simp [cGuard] at e2
    | some p =>
      obtain ⟨q, b'⟩ := p
      rw [hgo, hg] at e2
      simp only [cGuard, Option.map_eq_some_iff, Option.some.injEq, Prod.mk.injEq] at e2
      obtain ⟨t', ht, rfl, rfl⟩ := e2
      have hskip : Region.wanted o (yielded ops act.tmps) = false → K (updO a ins.dst (.tup [])) h → wpOp P ops Q i (Good G N ρ0 w0 K) act w := by
        intro hwant hK
        unfold wpOp
        rw [hi]
        simp only
        rw [hwant, if_neg (by simp)]
        have := A.put (d := ins.dst) (by rw [h3]; exact e4) (x := Go.undef) (.tup [] #[] rfl (fun j u hu => by simp at hu))
        rw [hdst]
        exact ⟨ρ, h, _, st, R, this, hK⟩
      have hr := A.rv t'
      have hwt : ∀ c, yielded ops act.tmps q = c → Region.wanted o (yielded ops act.tmps) = (c == some b') := fun c hc => by
        unfold Region.wanted
        rw [hgo]
        simp [hc]
      have hget : ∀ x, act.tmps.getD t' Go.undef = x → x ≠ Go.undef → act.tmps[t']? = some x := fun x hx hne => by
        cases hz : act.tmps[t']? with
        | none => simp [Array.getD_eq_getD_getElem?, hz] at hx; exact absurd hx.symm hne
        | some z => simp [Array.getD_eq_getD_getElem?, hz] at hx; rw [hx]
      unfold want at hw
      split at hw
      · rename_i hw0
        split at hw0
        · rename_i c hc
          injection hw0 with hcb
          have hcb : c = b' := by simpa using hcb
          subst hcb
          rw [hc] at hr
          have hval := hr.bool_inv
          have hy : yielded ops act.tmps q = some c := by
            unfold yielded
            rw [ht]
            simp [hget _ hval (by intro e; cases e)]
          unfold wpOp
          rw [hi]
          simp only
          rw [hwt _ hy, if_pos (by simp)]
          exact .inl (op1usound st R A (by rw [h3]; exact e4) hdst (by rw [h1]; exact e1) hw)
        · cases hw0
        · cases hw0
      · rename_i hw0
        split at hw0
        · rename_i c hc
          injection hw0 with hcb
          rw [hc] at hr
          have hval := hr.bool_inv
          have hy : yielded ops act.tmps q = some c := by
            unfold yielded
            rw [ht]
            simp [hget _ hval (by intro e; cases e)]
          exact hskip (by rw [hwt _ hy]; simpa using hcb) hw
        · rename_i hc
          rw [hc] at hr
          have hval : act.tmps.getD t' Go.undef = Go.undef := by
            generalize act.tmps.getD t' Go.undef = z at hr
            cases hr with
            | tup _ vs hl _ =>
              have : vs = #[] := Array.eq_empty_of_size_eq_zero hl
              subst this
              rfl
          have hy : yielded ops act.tmps q = none := by
            unfold yielded
            rw [ht]
            simp only [Option.bind_some]
            cases hz : act.tmps[t']? with
            | none => rfl
            | some z =>
              simp [Array.getD_eq_getD_getElem?, hz] at hval
              subst hval
              rfl
          exact hskip (by rw [hwt _ hy]; rfl) hw
        · cases hw0
      · exact hw.elim

theorem cInsL_spec : ∀ {os : List Oper} {is : List Ins}, cInsL P N ops os = some is → is.length = os.length ∧ ∀ (i : Nat) (j : Ins), is[i]? = some j → ∃ o : Oper, os[i]? = some o ∧ cIns P N ops o = some j
  | [], is, e => by simp [cInsL] at e; subst e; exact ⟨rfl, fun i j h => by simp at h⟩
  | o :: os, is, e => by
    unfold cInsL at e
    split at e
    · rename_i i is' e1 e2
      injection e with e
      subst e
      obtain ⟨hl, hq⟩ := cInsL_spec e2
      refine ⟨by simp [hl], fun k j hj => ?_⟩
      cases k with
      | zero => simp at hj; subst hj; exact ⟨o, rfl, e1⟩
      | succ k => exact hq k j (by simpa using hj)
    · cases e

theorem wpOps_sound {fz : List Nat} : ∀ (is : List Ins) (l : List Nat), l.length = is.length → (∀ (k i : Nat) (j : Ins), l[k]? = some i → is[k]? = some j → ∃ o : Oper, ops[i]? = some o ∧ cIns P N ops o = some j) →
    ∀ {K : Tm → Heap → Prop} {act : Act} {w : World}, Good G N ρ0 w0 (wpIs (Calls0 P G) G fz is K) act w → (∀ act w, Good G N ρ0 w0 K act w → Q .normal act w) → wpOps P ops Q l act w
  | [], l, hl, _, K, act, w, g, hQ => by
    have : l = [] := List.eq_nil_of_length_eq_zero (by simpa using hl)
    subst this
    exact hQ _ _ g
  | j :: is, [], hl, _, _, _, _, _, _ => by simp at hl
  | j :: is, i :: l, hl, hq, K, act, w, g, hQ => by
    obtain ⟨o, h1, h2⟩ := hq 0 i j rfl rfl
    obtain ⟨ρ, h, a, st, R, A, hw⟩ := g
    rw [wpOps_cons]
    exact wpOp_mono (fun act w g => wpOps_sound is l (by simpa using hl) (fun k i j hk hj => hq (k + 1) i j (by simpa using hk) (by simpa using hj)) g hQ) (one_sound h1 h2 ⟨rfl, rfl, rfl⟩ st R A hw)

end Go.Am

/- The abstract machine, 19: what an instruction looks at; what does not act. -/
namespace Go.Am
variable {G : Nat → V} {h h' : Heap} {a b : Tm}

def Agree (a b : Tm) (ts : List Nat) : Prop := ∀ t ∈ ts, a t = b t

theorem Agree.left {xs ys : List Nat} (e : Agree a b (xs ++ ys)) : Agree a b xs := fun t ht => e t (List.mem_append_left _ ht)
theorem Agree.right {xs ys : List Nat} (e : Agree a b (xs ++ ys)) : Agree a b ys := fun t ht => e t (List.mem_append_right _ ht)

theorem ev_agree {x : Opd} (e : Agree a b x.tmps) : x.ev G a = x.ev G b := by
  cases x with
  | t n => exact e n (by simp [Opd.tmps])
  | _ => rfl

theorem evs_agree : ∀ {xs : List Opd}, Agree a b (xs.flatMap Opd.tmps) → xs.map (·.ev G a) = xs.map (·.ev G b)
  | [], _ => rfl
  | x :: xs, e => by
    rw [List.flatMap_cons] at e
    rw [List.map_cons, List.map_cons, ev_agree e.left, evs_agree e.right]

theorem evo_agree {x : Option Opd} (e : Agree a b (x.toList.flatMap Opd.tmps)) : x.map (·.ev G a) = x.map (·.ev G b) := by
  cases x with
  | none => rfl
  | some x =>
    simp only [Option.toList_some, List.flatMap_cons, List.flatMap_nil, List.append_nil] at e
    simp [ev_agree (G := G) e]

theorem evb_agree : ∀ {ps : List (Nat × Nat × Opd)}, Agree a b (ps.flatMap fun p => p.2.2.tmps) → (ps.map fun p => (p.1, p.2.1, p.2.2.ev G a)) = ps.map fun p => (p.1, p.2.1, p.2.2.ev G b)
  | [], _ => rfl
  | p :: ps, e => by
    rw [List.flatMap_cons] at e
    rw [List.map_cons, List.map_cons, ev_agree e.left, evb_agree e.right]

theorem evp_agree : ∀ {ps : List (Nat × Opd)}, Agree a b (ps.flatMap fun p => p.2.tmps) → (ps.map fun p => (p.1, p.2.ev G a)) = ps.map fun p => (p.1, p.2.ev G b)
  | [], _ => rfl
  | p :: ps, e => by
    rw [List.flatMap_cons] at e
    rw [List.map_cons, List.map_cons, ev_agree e.left, evp_agree e.right]

theorem step_agree {i : I} (e : Agree a b i.tmps) : stepI G a h i = stepI G b h i := by
  cases i
  all_goals first
    | rfl
    | (simp only [I.tmps] at e
       first
         | (simp only [stepI, ev_agree (G := G) e]; done)
         | (simp only [stepI, ev_agree (G := G) e.left, ev_agree (G := G) e.right]; done)
         | (simp only [stepI, ev_agree (G := G) e.left, ev_agree (G := G) e.right.left, ev_agree (G := G) e.right.right]; done)
         | (simp only [stepI, evb_agree (G := G) e]; done)
         | (simp only [stepI, evp_agree (G := G) e]; done)
         | (simp only [stepI, evs_agree (G := G) e]; done)
         | (simp only [stepI, ev_agree (G := G) e.left, evo_agree (G := G) e.right.left, evo_agree (G := G) e.right.right.left, evo_agree (G := G) e.right.right.right]; done))

/-- What looks at no memory. -/
theorem step_inert {i : I} (k : kindI i = 0) {v : V} {h1 : Heap} (e : stepI G a h i = some (v, h1)) : h1 = h ∧ ∀ h', stepI G a h' i = some (v, h') := by
  cases i <;> first | (simp [kindI] at k; done) | skip
  all_goals simp only [stepI] at e ⊢
  all_goals first
    | (obtain ⟨rfl, rfl⟩ := pair2 e; exact ⟨rfl, fun _ => rfl⟩)
    | (obtain ⟨u, h1, rfl, rfl⟩ := heap_eq e; exact ⟨rfl, fun _ => by rw [h1]; rfl⟩)
    | (split at e <;> first
        | (cases e; done)
        | (obtain ⟨rfl, rfl⟩ := pair2 e; exact ⟨rfl, fun _ => rfl⟩)
        | (obtain ⟨u, h1, rfl, rfl⟩ := heap_eq e; exact ⟨rfl, fun _ => by rw [h1]; rfl⟩)
        | (split at e <;> first
            | (cases e; done)
            | (rename_i hc; obtain ⟨rfl, rfl⟩ := pair2 e; exact ⟨rfl, fun _ => by first | rfl | rw [if_pos hc] | rw [dif_pos hc]⟩)
            | (rename_i hc; obtain ⟨u, h1, rfl, rfl⟩ := heap_eq e; exact ⟨rfl, fun _ => by first | rw [h1]; rfl | (rw [if_neg hc, h1]; rfl)⟩)
            | (rename_i hc; split at e <;> first
                | (cases e; done)
                | (rename_i hc2; split at e <;> first
                    | (cases e; done)
                    | (rename_i hc3; obtain ⟨rfl, rfl⟩ := pair2 e; exact ⟨rfl, fun _ => by rw [if_pos hc, if_pos hc2, if_pos hc3]⟩))
                | (rename_i hc2; obtain ⟨rfl, rfl⟩ := pair2 e; exact ⟨rfl, fun _ => by rw [if_pos hc, if_pos hc2]⟩)
                | (rename_i hc2; obtain ⟨u, h1, rfl, rfl⟩ := heap_eq e; exact ⟨rfl, fun _ => by rw [if_pos hc, if_neg hc2, h1]; rfl⟩))))

/-- What does not act leaves the memory alone. -/
theorem step_quiet {i : I} (k : kindI i ≠ 2) {v : V} {h1 : Heap} (e : stepI G a h i = some (v, h1)) : h1 = h := by
  by_cases k0 : kindI i = 0
  · exact (step_inert k0 e).1
  · cases i <;> first | (simp [kindI] at k k0; done) | skip
    all_goals simp only [stepI] at e
    all_goals first
      | (obtain ⟨u, h1, rfl, rfl⟩ := heap_eq e; rfl)
      | (split at e <;> first
          | (cases e; done)
          | exact (pair2 e).2.symm
          | (split at e <;> first
              | (cases e; done)
              | exact (pair2 e).2.symm
              | (split at e <;> first
                  | (cases e; done)
                  | exact (pair2 e).2.symm)))

end Go.Am

/- The abstract machine, 20: a statement whose order is open: one tree stands for all orders. -/
namespace Go.Am
variable {G : Nat → V} {C : FuncId → List V → Heap → (V → Heap → Prop) → Prop} {fz : List Nat} {is : Array Ins} {bef : Nat → Nat → Bool} {pre : Nat → List Nat} {n : Nat}

def ReadyA (pre : Nat → List Nat) (n : Nat) (L : List Nat) (i : Nat) : Prop := i < n ∧ i ∉ L ∧ ∀ p ∈ pre i, p ∈ L

/-- Any order. -/
def anyA (C : FuncId → List V → Heap → (V → Heap → Prop) → Prop) (G : Nat → V) (fz : List Nat) (is : Array Ins) (bef : Nat → Nat → Bool) (pre : Nat → List Nat) (n : Nat) (K : Tm → Heap → Prop) : Nat → List Nat → Tm → Heap → Prop
  | 0, L, a, h => (∀ i, ¬ ReadyA pre n L i) ∧ K a h
  | fuel + 1, L, a, h => ((∀ i, ¬ ReadyA pre n L i) → K a h) ∧
      ∀ i, ReadyA pre n L i → ∃ ins, is[i]? = some ins ∧ wpI C G (if kindOf is bef i = 2 then fz else []) { ins with rr := [] } (anyA C G fz is bef pre n K fuel (i :: L)) a h

/-- What an instruction that was done first comes to, here and now. -/
def Yield (G : Nat → V) (a : Tm) (h : Heap) (ins : Ins) : Prop :=
  match ins.g with
  | none => ∃ v, stepI G a h ins.op = some (v, h) ∧ ∀ d, ins.dst = some d → a d = v
  | some (t, b) => ∃ c, want b (a t) = some c ∧ (c = true → ∃ v, stepI G a h ins.op = some (v, h) ∧ ∀ d, ins.dst = some d → a d = v) ∧ (c = false → ∀ d, ins.dst = some d → a d = .tup [])

structure Chk (is : Array Ins) (bef : Nat → Nat → Bool) (pre : Nat → List Nat) (n : Nat) : Prop where
  size : is.size = n
  dst : ∀ (i j : Nat) (x y : Ins) (d : Nat), is[i]? = some x → is[j]? = some y → x.dst = some d → y.dst = some d → i = j
  look : ∀ (i j : Nat) (x y : Ins) (d : Nat), is[i]? = some x → is[j]? = some y → x.dst = some d → d ∈ y.tmps → bef i j = true ∨ (kindOf is bef i = 2 ∧ bef j i = true)
  just : ∀ i j, i < n → j < n → bef i j = true → i ∈ pre j ∨ ∃ p ∈ pre j, bef i p = true
  read : ∀ (i : Nat) (x : Ins), is[i]? = some x → kindI x.op = 1 → kindOf is bef i ≠ 2 → ∃ d, x.dst = some d

structure Inv (G : Nat → V) (is : Array Ins) (bef : Nat → Nat → Bool) (n : Nat) (L D : List Nat) (aL aD : Tm) (h : Heap) : Prop where
  sub : ∀ i ∈ L, i ∈ D
  lt : ∀ i ∈ D, i < n
  clD : ∀ i ∈ D, ∀ m, m < n → bef m i = true → m ∈ D
  clL : ∀ i ∈ L, ∀ m, m < n → bef m i = true → m ∈ L
  quiet : ∀ i ∈ D, i ∉ L → kindOf is bef i ≠ 2
  same : ∀ t, (∀ i ∈ D, i ∉ L → ∀ x, is[i]? = some x → x.dst ≠ some t) → aL t = aD t
  yield : ∀ i ∈ D, i ∉ L → ∀ x, is[i]? = some x → Yield G aD h x

theorem kind_quiet {i : Nat} {x : Ins} (e : is[i]? = some x) (k : kindOf is bef i ≠ 2) : kindI x.op ≠ 2 := by
  unfold kindOf at k
  rw [e] at k
  simp only at k
  intro h
  apply k
  rw [h]
  exact ite_self 2

theorem upd_ne {a : Tm} {d : Option Nat} {v : V} {t : Nat} (e : d ≠ some t) : updO a d v t = a t := by
  cases d with
  | none => rfl
  | some d =>
    simp only [updO, upd]
    rw [if_neg (fun q => e (by rw [q]))]

theorem upd_eq {a : Tm} {d : Nat} {v : V} : updO a (some d) v d = v := by simp [updO, upd]

theorem Yield.agree {a b : Tm} {h : Heap} {x : Ins} (y : Yield G a h x) (e : Agree a b x.tmps) (ed : ∀ d, x.dst = some d → a d = b d) : Yield G b h x := by
  unfold Yield at y ⊢
  have e1 : Agree a b x.op.tmps := e.left
  cases hg : x.g with
  | none =>
    rw [hg] at y
    obtain ⟨v, q1, q2⟩ := y
    exact ⟨v, by rw [← step_agree e1]; exact q1, fun d hd => by rw [← ed d hd]; exact q2 d hd⟩
  | some p =>
    obtain ⟨t, bb⟩ := p
    rw [hg] at y
    obtain ⟨c, q1, q2, q3⟩ := y
    have et : a t = b t := e t (by simp [Ins.tmps, hg])
    refine ⟨c, by rw [← et]; exact q1, fun hc => ?_, fun hc d hd => by rw [← ed d hd]; exact q3 hc d hd⟩
    obtain ⟨v, q4, q5⟩ := q2 hc
    exact ⟨v, by rw [← step_agree e1]; exact q4, fun d hd => by rw [← ed d hd]; exact q5 d hd⟩

/-- Doing it in the actual run. -/
theorem Yield.done {a b : Tm} {h : Heap} {x : Ins} {K : Tm → Heap → Prop} (y : Yield G a h x) (e : Agree a b x.tmps) (k : kindI x.op ≠ 2) (hK : ∀ b', (∀ t, x.dst ≠ some t → b' t = b t) → (∀ d, x.dst = some d → b' d = a d) → K b' h) :
    wpI C G [] { x with rr := [] } K b h := by
  have e1 : Agree a b x.op.tmps := e.left
  have put : ∀ v, (∀ d, x.dst = some d → a d = v) → putD G [] { x with rr := [] } K b v h := by
    intro v hv
    unfold putD
    cases hd : x.dst with
    | none => exact ⟨trivial, hK b (fun _ _ => rfl) (fun d q => by rw [hd] at q; cases q)⟩
    | some d =>
      simp only [List.contains_nil, Bool.false_eq_true, if_false]
      refine ⟨trivial, hK _ (fun t ht => ?_) (fun d' hd' => ?_)⟩
      · exact upd_ne (d := some d) (by rw [← hd]; exact ht)
      · rw [hd] at hd'
        injection hd' with hd'
        subst hd'
        rw [hv d hd]
        exact upd_eq
  have one : (∃ v, stepI G a h x.op = some (v, h) ∧ ∀ d, x.dst = some d → a d = v) → wpOp1 C G [] { x with rr := [] } K b h := by
    rintro ⟨v, q1, q2⟩
    rw [step_agree e1] at q1
    have := put v q2
    unfold wpOp1
    simp only
    split
    · rename_i q; rw [q] at k; exact absurd rfl k
    · rename_i q; rw [q] at k; exact absurd rfl k
    · rename_i q; rw [q] at k; exact absurd rfl k
    · rw [q1]
      exact this
  unfold Yield at y
  unfold wpI
  simp only
  cases hg : x.g with
  | none =>
    rw [hg] at y
    exact one y
  | some p =>
    obtain ⟨t, bb⟩ := p
    rw [hg] at y
    obtain ⟨c, q1, q2, q3⟩ := y
    have et : a t = b t := e t (by simp [Ins.tmps, hg])
    simp only
    rw [← et, q1]
    cases c with
    | true => exact one (q2 rfl)
    | false =>
      refine hK _ (fun t ht => upd_ne ht) (fun d hd => ?_)
      rw [q3 rfl d hd]
      rw [hd]
      exact upd_eq

/-- Doing it in the tree. -/
theorem Yield.make {a : Tm} {h : Heap} {x : Ins} {K : Tm → Heap → Prop} (k : kindI x.op ≠ 2) (hself : ∀ d, x.dst = some d → d ∉ x.tmps) (hw : wpI C G [] x K a h) : ∃ v, K (updO a x.dst v) h ∧ Yield G (updO a x.dst v) h x := by
  have ag : ∀ v, Agree a (updO a x.dst v) x.tmps := fun v t ht => (upd_ne (fun q => hself t q ht)).symm
  have one : wpOp1 C G [] x K a h → ∃ v, stepI G a h x.op = some (v, h) ∧ K (updO a x.dst v) h := by
    intro hw
    have gen : (match stepI G a h x.op with | some (v, h') => putD G [] x K a v h' | none => False) → ∃ v, stepI G a h x.op = some (v, h) ∧ K (updO a x.dst v) h := by
      intro q
      split at q
      · rename_i v h' hs
        have := step_quiet k hs
        subst this
        refine ⟨v, hs, ?_⟩
        unfold putD at q
        cases hd : x.dst with
        | none => rw [hd] at q; exact q.2
        | some d =>
          rw [hd] at q
          simp only [List.contains_nil, Bool.false_eq_true, if_false] at q
          exact q.2
      · exact q.elim
    unfold wpOp1 at hw
    split at hw
    · rename_i q; rw [q] at k; exact absurd rfl k
    · rename_i q; rw [q] at k; exact absurd rfl k
    · rename_i q; rw [q] at k; exact absurd rfl k
    · exact gen hw
  have fin : ∀ v, stepI G a h x.op = some (v, h) → ∃ u, stepI G (updO a x.dst v) h x.op = some (u, h) ∧ ∀ d, x.dst = some d → updO a x.dst v d = u := by
    intro v hs
    refine ⟨v, by rw [← step_agree (Agree.left (ag v))]; exact hs, fun d hd => by rw [hd]; exact upd_eq⟩
  unfold wpI at hw
  unfold Yield
  cases hg : x.g with
  | none =>
    rw [hg] at hw
    obtain ⟨v, q1, q2⟩ := one hw
    exact ⟨v, q2, fin v q1⟩
  | some p =>
    obtain ⟨t, bb⟩ := p
    rw [hg] at hw
    simp only at hw
    have htm : t ∈ x.tmps := by simp [Ins.tmps, hg]
    split at hw
    · rename_i hc
      obtain ⟨v, q1, q2⟩ := one hw
      exact ⟨v, q2, true, by rw [← ag v t htm]; exact hc, fun _ => fin v q1, fun q => by cases q⟩
    · rename_i hc
      exact ⟨.tup [], hw, false, by rw [← ag (.tup []) t htm]; exact hc, fun q => (by cases q), fun _ d hd => by rw [hd]; exact upd_eq⟩
    · exact hw.elim

/-- What is ahead of the actual run is not looked at by what is ready in it. -/
theorem Inv.agree (ck : Chk is bef pre n) {L D : List Nat} {aL aD : Tm} {h : Heap} (I : Inv G is bef n L D aL aD h) {i : Nat} (r : ReadyA pre n L i) {x : Ins} (hx : is[i]? = some x) : Agree aD aL x.tmps := by
  intro t ht
  refine (I.same t (fun m hm hmL y hy hd => ?_)).symm
  rcases ck.look m i y x t hy hx hd ht with q | ⟨q, _⟩
  · have hmn := I.lt m hm
    rcases ck.just m i hmn r.1 q with q | ⟨p, hp, q⟩
    · exact hmL (r.2.2 m q)
    · exact hmL (I.clL p (r.2.2 p hp) m hmn q)
  · exact I.quiet m hm hmL q

/-- The actual run catches up. -/
theorem Inv.catch (ck : Chk is bef pre n) {L D : List Nat} {aL aD bL : Tm} {h : Heap} (I : Inv G is bef n L D aL aD h) {i : Nat} (r : ReadyA pre n L i) (hi : i ∈ D) {x : Ins} (hx : is[i]? = some x) (h1 : ∀ t, x.dst ≠ some t → bL t = aL t) (h2 : ∀ d, x.dst = some d → bL d = aD d) :
    Inv G is bef n (i :: L) D bL aD h := by
  refine ⟨fun j hj => ?_, I.lt, I.clD, fun j hj m hm hb => ?_, fun j hj hjL => I.quiet j hj (fun q => hjL (List.mem_cons_of_mem _ q)), fun t ht => ?_, fun j hj hjL => I.yield j hj (fun q => hjL (List.mem_cons_of_mem _ q))⟩
  · rcases List.mem_cons.1 hj with rfl | hj
    · exact hi
    · exact I.sub j hj
  · rcases List.mem_cons.1 hj with rfl | hj
    · rcases ck.just m j hm r.1 hb with q | ⟨p, hp, q⟩
      · exact List.mem_cons_of_mem _ (r.2.2 m q)
      · exact List.mem_cons_of_mem _ (I.clL p (r.2.2 p hp) m hm q)
    · exact List.mem_cons_of_mem _ (I.clL j hj m hm hb)
  · by_cases hd : x.dst = some t
    · exact h2 t hd
    · rw [h1 t hd]
      refine I.same t (fun j hj hjL y hy q => ?_)
      by_cases hij : j = i
      · subst hij
        rw [hx] at hy
        injection hy with hy
        subst hy
        exact hd q
      · exact ht j hj (fun hm => by rcases List.mem_cons.1 hm with e | e; exact hij e; exact hjL e) y hy q

theorem Inv.noself (ck : Chk is bef pre n) {D : List Nat} {i : Nat} (clD : ∀ j ∈ D, ∀ m, m < n → bef m j = true → m ∈ D) (hin : i < n) (hiD : i ∉ D) (hp : ∀ p ∈ pre i, p ∈ D) (m : Nat) (hm : m < n) (hb : bef m i = true) : m ∈ D := by
  rcases ck.just m i hm hin hb with q | ⟨p, hpp, q⟩
  · exact hp m q
  · exact clD p (hp p hpp) m hm q

/-- The tree goes on by something that does not act. -/
theorem Inv.ahead (ck : Chk is bef pre n) {L D : List Nat} {aL aD : Tm} {h : Heap} (I : Inv G is bef n L D aL aD h) {i : Nat} (hin : i < n) (hiD : i ∉ D) (hp : ∀ p ∈ pre i, p ∈ D) (hk : kindOf is bef i ≠ 2) {x : Ins} (hx : is[i]? = some x) {v : V}
    (hy : Yield G (updO aD x.dst v) h x) : Inv G is bef n L (i :: D) aL (updO aD x.dst v) h := by
  have ns := Inv.noself ck I.clD hin hiD hp
  refine ⟨fun j hj => List.mem_cons_of_mem _ (I.sub j hj), fun j hj => ?_, fun j hj m hm hb => ?_, I.clL, fun j hj hjL => ?_, fun t ht => ?_, fun j hj hjL y hy' => ?_⟩
  · rcases List.mem_cons.1 hj with rfl | hj
    · exact hin
    · exact I.lt j hj
  · rcases List.mem_cons.1 hj with rfl | hj
    · exact List.mem_cons_of_mem _ (ns m hm hb)
    · exact List.mem_cons_of_mem _ (I.clD j hj m hm hb)
  · rcases List.mem_cons.1 hj with rfl | hj
    · exact hk
    · exact I.quiet j hj hjL
  · have hne : x.dst ≠ some t := ht i (List.mem_cons_self ..) (fun q => hiD (I.sub i q)) x hx
    rw [upd_ne hne]
    exact I.same t (fun j hj hjL y hy' => ht j (List.mem_cons_of_mem _ hj) hjL y hy')
  · rcases List.mem_cons.1 hj with rfl | hj
    · rw [hx] at hy'
      injection hy' with hy'
      subst hy'
      exact hy
    · have hji : j ≠ i := fun e => hiD (e ▸ hj)
      refine (I.yield j hj hjL y hy').agree (fun t ht => (upd_ne (fun hd => ?_)).symm) (fun d hd => (upd_ne (fun hd' => hji (ck.dst j i y x d hy' hx hd hd'))).symm)
      rcases ck.look i j x y t hx hy' hd ht with q | ⟨q, _⟩
      · exact hiD (I.clD j hj i hin q)
      · exact hk q

/-- Both do what acts. -/
theorem Inv.act (ck : Chk is bef pre n) {L D : List Nat} {aL aD : Tm} {h h' : Heap} (I : Inv G is bef n L D aL aD h) {i : Nat} (hiD : i ∉ D) (r : ReadyA pre n L i) {x : Ins} (hx : is[i]? = some x) {v : V}
    (hy : ∀ j ∈ D, j ∉ L → bef j i = false → ∀ y, is[j]? = some y → Yield G aD h y → Yield G aD h' y) : Inv G is bef n (i :: L) (i :: D) (updO aL x.dst v) (updO aD x.dst v) h' := by
  have hpD : ∀ p ∈ pre i, p ∈ D := fun p hp => I.sub p (r.2.2 p hp)
  have ns := Inv.noself ck I.clD r.1 hiD hpD
  have nl : ∀ m, m < n → bef m i = true → m ∈ L := fun m hm hb => by
    rcases ck.just m i hm r.1 hb with q | ⟨p, hpp, q⟩
    · exact r.2.2 m q
    · exact I.clL p (r.2.2 p hpp) m hm q
  refine ⟨fun j hj => ?_, fun j hj => ?_, fun j hj m hm hb => ?_, fun j hj m hm hb => ?_, fun j hj hjL => ?_, fun t ht => ?_, fun j hj hjL y hy' => ?_⟩
  · rcases List.mem_cons.1 hj with rfl | hj
    · exact List.mem_cons_self ..
    · exact List.mem_cons_of_mem _ (I.sub j hj)
  · rcases List.mem_cons.1 hj with rfl | hj
    · exact r.1
    · exact I.lt j hj
  · rcases List.mem_cons.1 hj with rfl | hj
    · exact List.mem_cons_of_mem _ (ns m hm hb)
    · exact List.mem_cons_of_mem _ (I.clD j hj m hm hb)
  · rcases List.mem_cons.1 hj with rfl | hj
    · exact List.mem_cons_of_mem _ (nl m hm hb)
    · exact List.mem_cons_of_mem _ (I.clL j hj m hm hb)
  · rcases List.mem_cons.1 hj with rfl | hj
    · exact absurd (List.mem_cons_self ..) hjL
    · exact I.quiet j hj (fun q => hjL (List.mem_cons_of_mem _ q))
  · by_cases hd : x.dst = some t
    · rw [hd, upd_eq, upd_eq]
    · rw [upd_ne hd, upd_ne hd]
      refine I.same t (fun j hj hjL y hy' => ht j (List.mem_cons_of_mem _ hj) (fun q => ?_) y hy')
      rcases List.mem_cons.1 q with rfl | q
      · exact hiD hj
      · exact hjL q
  · rcases List.mem_cons.1 hj with rfl | hj
    · exact absurd (List.mem_cons_self ..) hjL
    · have hjL' : j ∉ L := fun q => hjL (List.mem_cons_of_mem _ q)
      have hji : j ≠ i := fun e => hiD (e ▸ hj)
      have hb : bef j i = false := by
        cases hb : bef j i with
        | false => rfl
        | true => exact absurd (nl j (I.lt j hj) hb) hjL'
      refine (hy j hj hjL' hb y hy' (I.yield j hj hjL' y hy')).agree (fun t ht => (upd_ne (fun hd => ?_)).symm) (fun d hd => (upd_ne (fun hd' => hji (ck.dst j i y x d hy' hx hd hd'))).symm)
      rcases ck.look i j x y t hx hy' hd ht with q | ⟨_, q⟩
      · exact hiD (I.clD j hj i r.1 q)
      · rw [hb] at q; cases q

end Go.Am

/- The abstract machine, 21: a tree's meaning holds for all orders. -/
namespace Go.Am
variable {G : Nat → V} {C : FuncId → List V → Heap → (V → Heap → Prop) → Prop} {fz : List Nat} {is : Array Ins} {bef : Nat → Nat → Bool} {pre : Nat → List Nat} {n : Nat}

def MonoC (C : FuncId → List V → Heap → (V → Heap → Prop) → Prop) : Prop := ∀ f args h R R', (∀ x h', R x h' → R' x h') → C f args h R → C f args h R'

theorem kind_three (x : I) : kindI x = 0 ∨ kindI x = 1 ∨ kindI x = 2 := by cases x <;> simp [kindI]

theorem want_true {b : Bool} {v : V} (e : want b v = some true) : v = .bool b := by
  unfold want at e
  split at e
  · injection e with e
    rw [beq_iff_eq.1 e]
  · cases e
  · cases e

theorem rrOk_mem {a : Tm} {h : Heap} : ∀ {l : List (Option (Nat × Bool) × Nat × I)}, rrOk G a h l → ∀ g d i, (g, d, i) ∈ l → match g with | none => stepI G a h i = some (a d, h) | some (t, b) => a t = .bool b → stepI G a h i = some (a d, h)
  | [], _, g, d, i, m => by cases m
  | p :: l, r, g, d, i, m => by
    rcases List.mem_cons.1 m with e | m
    · subst e
      exact r.1
    · exact rrOk_mem r.2 g d i m

theorem putD_transfer {x : Ins} {rr : List (Option (Nat × Bool) × Nat × I)} {K1 K2 : Tm → Heap → Prop} {a b : Tm} (hK : ∀ v h', rrOk G a h' rr → K1 (updO a x.dst v) h' → K2 (updO b x.dst v) h') {v : V} {h : Heap} (hp : putD G fz { x with rr := rr } K1 a v h) :
    putD G fz { x with rr := [] } K2 b v h := by
  unfold putD at hp ⊢
  simp only at hp ⊢
  cases hd : x.dst with
  | none =>
    rw [hd] at hp hK
    exact ⟨trivial, hK .undef h hp.1 hp.2⟩
  | some d =>
    rw [hd] at hp hK
    simp only at hp ⊢
    by_cases hf : fz.contains d = true
    · rw [if_pos hf] at hp ⊢
      split at hp
      · exact ⟨trivial, hK _ _ hp.1 hp.2⟩
      · exact hp.elim
    · rw [if_neg hf] at hp ⊢
      exact ⟨trivial, hK _ _ hp.1 hp.2⟩

theorem wpI_transfer (mono : MonoC C) {x : Ins} {rr : List (Option (Nat × Bool) × Nat × I)} {K1 K2 : Tm → Heap → Prop} {a b : Tm} {h : Heap} (ag : Agree a b x.tmps) (hK : ∀ v h', rrOk G a h' rr → K1 (updO a x.dst v) h' → K2 (updO b x.dst v) h')
    (hU : K1 (updO a x.dst (.tup [])) h → K2 (updO b x.dst (.tup [])) h) (hw : wpI C G fz { x with rr := rr } K1 a h) : wpI C G fz { x with rr := [] } K2 b h := by
  have e1 : Agree a b x.op.tmps := ag.left
  have one : wpOp1 C G fz { x with rr := rr } K1 a h → wpOp1 C G fz { x with rr := [] } K2 b h := by
    intro q
    cases hop : x.op with
    | call f args =>
      rw [hop] at e1
      simp only [wpOp1, hop] at q ⊢
      rw [← evs_agree (G := G) (show Agree a b (args.flatMap Opd.tmps) from e1)]
      exact mono _ _ _ _ _ (fun v h' hp => putD_transfer hK hp) q
    | callv y args =>
      rw [hop] at e1
      simp only [wpOp1, hop] at q ⊢
      rw [← ev_agree (G := G) (show Agree a b y.tmps from e1.left)]
      split at q
      · rw [← evs_agree (G := G) (show Agree a b (args.flatMap Opd.tmps) from e1.right)]
        exact mono _ _ _ _ _ (fun v h' hp => putD_transfer hK hp) q
      · exact q.elim
    | isnil neg y =>
      rw [hop] at e1
      simp only [wpOp1, hop] at q ⊢
      rw [← ev_agree (G := G) (show Agree a b y.tmps from e1)]
      split at q
      · exact fun bb => putD_transfer hK (q bb)
      · exact fun bb => putD_transfer hK (q bb)
      · exact putD_transfer hK q
      · exact putD_transfer hK q
      · exact q.elim
    | _ =>
      have e2 := step_agree (G := G) (h := h) e1
      rw [hop] at e2
      simp only [wpOp1, hop] at q ⊢
      rw [← e2]
      split at q
      · exact putD_transfer hK q
      · exact q.elim
  unfold wpI at hw ⊢
  simp only at hw ⊢
  cases hg : x.g with
  | none =>
    rw [hg] at hw
    exact one hw
  | some p =>
    obtain ⟨t, bb⟩ := p
    rw [hg] at hw
    simp only at hw ⊢
    have et : a t = b t := ag t (by simp [Ins.tmps, hg])
    rw [← et]
    split at hw
    · exact one hw
    · exact hU hw
    · exact hw.elim

/-! ### which are there -/

def OrdD (pre : Nat → List Nat) : List Nat → Prop
  | [] => True
  | i :: D => (∀ p ∈ pre i, p ∈ D) ∧ OrdD pre D

theorem OrdD.first : ∀ {D : List Nat} {L : List Nat}, OrdD pre D → (∃ i ∈ D, i ∉ L) → ∃ i ∈ D, i ∉ L ∧ ∀ p ∈ pre i, p ∈ L
  | [], _, _, ⟨i, hi, _⟩ => by cases hi
  | j :: D, L, o, ⟨i, hi, hL⟩ => by
    by_cases hD : ∃ i ∈ D, i ∉ L
    · obtain ⟨k, h1, h2, h3⟩ := OrdD.first o.2 hD
      exact ⟨k, List.mem_cons_of_mem _ h1, h2, h3⟩
    · have hall : ∀ i ∈ D, i ∈ L := fun i hi => Classical.byContradiction fun q => hD ⟨i, hi, q⟩
      rcases List.mem_cons.1 hi with rfl | hi
      · exact ⟨i, List.mem_cons_self .., hL, fun p hp => hall p (o.1 p hp)⟩
      · exact absurd (hall i hi) hL

def left (n : Nat) (L : List Nat) : Nat := (List.range n).countP fun j => !L.contains j

theorem left_zero {L : List Nat} (e : left n L = 0) (i : Nat) (hi : i < n) : i ∈ L := by
  unfold left at e
  rw [List.countP_eq_zero] at e
  have := e i (List.mem_range.2 hi)
  simpa using this

theorem countP_less : ∀ {l : List Nat} {p q : Nat → Bool} {i : Nat}, i ∈ l → p i = true → q i = false → (∀ j, q j = true → p j = true) → l.countP q + 1 ≤ l.countP p
  | [], _, _, _, hi, _, _, _ => by cases hi
  | j :: l, p, q, i, hi, h1, h2, h3 => by
    have hmono : l.countP q ≤ l.countP p := List.countP_mono_left (fun x _ hx => h3 x hx)
    rw [List.countP_cons, List.countP_cons]
    rcases List.mem_cons.1 hi with rfl | hi
    · rw [h1, h2]
      simp
      exact hmono
    · have := countP_less hi h1 h2 h3
      have hj : (if q j = true then 1 else 0) ≤ (if p j = true then 1 else 0) := by
        by_cases hq : q j = true
        · rw [if_pos hq, if_pos (h3 j hq)]; exact Nat.le_refl _
        · rw [if_neg hq]; exact Nat.zero_le _
      omega

theorem left_less {L : List Nat} {i : Nat} (hi : i < n) (hL : i ∉ L) : left n (i :: L) + 1 ≤ left n L :=
  countP_less (List.mem_range.2 hi) (by simpa using hL) (by simp) (fun j hj => by simp at hj ⊢; exact hj.2)

/-! ### the tree -/

def rrFor (is : Array Ins) (bef : Nat → Nat → Bool) (q : List Nat) (j : Nat) : List (Option (Nat × Bool) × Nat × I) :=
  (q.filter fun i => !(bef i j)).filterMap fun i => (is[i]?).bind fun z => if kindI z.op = 1 then z.dst.map fun d => (z.g, d, z.op) else none

theorem rrFor_mem {q : List Nat} {i j : Nat} (hi : i ∈ q) (hb : bef i j = false) {y : Ins} (hy : is[i]? = some y) (hk : kindI y.op = 1) {d : Nat} (hd : y.dst = some d) : (y.g, d, y.op) ∈ rrFor is bef q j := by
  unfold rrFor
  rw [List.mem_filterMap]
  exact ⟨i, List.mem_filter.2 ⟨hi, by simp [hb]⟩, by simp [hy, hk, hd]⟩

theorem cTree_act {j : Nat} {t : NT} {q : List Nat} {tr : Tr} (e : cTree is bef (.act j t) q = some tr) : ∃ x tr', is[j]? = some x ∧ cTree is bef t q = some tr' ∧ tr = .act { x with rr := rrFor is bef q j } tr' := by
  unfold cTree at e
  split at e
  · rename_i x y e1 e2
    injection e with e
    exact ⟨x, y, e1, e2, e.symm⟩
  · cases e

theorem cTree_both {x y : NT} {q : List Nat} {tr : Tr} (e : cTree is bef (.both x y) q = some tr) : ∃ a b, cTree is bef x q = some a ∧ cTree is bef y q = some b ∧ tr = .both a b := by
  unfold cTree at e
  split at e
  · rename_i a b e1 e2
    injection e with e
    exact ⟨a, b, e1, e2, e.symm⟩
  · cases e

theorem cTree_pre {l : List Nat} {t : NT} {q : List Nat} {tr : Tr} (e : cTree is bef (.pre l t) q = some tr) : ∃ xs tr', l.mapM (fun j => is[j]?) = some xs ∧ cTree is bef t (q ++ l) = some tr' ∧ tr = .pre xs tr' := by
  unfold cTree at e
  split at e
  · rename_i a b e1 e2
    injection e with e
    exact ⟨a, b, e1, e2, e.symm⟩
  · cases e

theorem branch {K : Tm → Heap → Prop} {a : Tm} {h : Heap} {q D : List Nat} {kinds : Nat → Nat} {i : Nat} : ∀ (T : NT) (top : Bool) (tr : Tr), okN kinds pre n top T D = true → i ∈ heads T → cTree is bef T q = some tr → wpT C G fz tr K a h →
    ∃ x t' tr', is[i]? = some x ∧ i < n ∧ i ∉ D ∧ kinds i = 2 ∧ okN kinds pre n true t' (i :: D) = true ∧ cTree is bef t' q = some tr' ∧ wpI C G fz { x with rr := rrFor is bef q i } (wpT C G fz tr' K) a h
  | .done, _, _, _, hi, _, _ => by cases hi
  | .pre _ _, _, _, _, hi, _, _ => by cases hi
  | .act j t, top, tr, ho, hi, hc, hw => by
    simp only [heads, List.mem_singleton] at hi
    subst hi
    obtain ⟨x, tr', e1, e2, rfl⟩ := cTree_act hc
    simp only [okN, Bool.and_eq_true, decide_eq_true_eq, Bool.not_eq_true', beq_iff_eq] at ho
    obtain ⟨⟨⟨⟨⟨_, h1⟩, h2⟩, _⟩, h3⟩, h4⟩ := ho
    exact ⟨x, t, tr', e1, h1, by simpa using h2, h3, h4, e2, hw⟩
  | .both x y, top, tr, ho, hi, hc, hw => by
    obtain ⟨ta, tb, e1, e2, rfl⟩ := cTree_both hc
    simp only [okN, Bool.and_eq_true] at ho
    simp only [heads, List.mem_append] at hi
    rcases hi with hi | hi
    · exact branch x false ta ho.1.2 hi e1 hw.1
    · exact branch y false tb ho.2 hi e2 hw.2

theorem head_ready {D : List Nat} {kinds : Nat → Nat} : ∀ (T : NT), okN kinds pre n false T D = true → ∃ i, i < n ∧ i ∉ D ∧ ∀ p ∈ pre i, p ∈ D
  | .done, ho => by simp [okN] at ho
  | .pre _ _, ho => by simp [okN] at ho
  | .act j t, ho => by
    simp only [okN, Bool.and_eq_true, decide_eq_true_eq, Bool.not_eq_true', List.all_eq_true] at ho
    obtain ⟨⟨⟨⟨⟨_, h1⟩, h2⟩, h5⟩, h3⟩, h4⟩ := ho
    exact ⟨j, h1, by simpa using h2, fun p hp => by simpa using h5 p hp⟩
  | .both x y, ho => by
    simp only [okN, Bool.and_eq_true] at ho
    exact head_ready x ho.1.2

/-- What does not act is done ahead, one by one. -/
theorem pre_ahead (ck : Chk is bef pre n) {K : Tm → Heap → Prop} {L : List Nat} {aL : Tm} {h : Heap} : ∀ (l : List Nat) (D : List Nat) (xs : List Ins) (aD : Tm), okPre (kindOf is bef) pre n l D = true → l.mapM (fun j => is[j]?) = some xs → Inv G is bef n L D aL aD h → OrdD pre D →
    wpIs C G [] xs K aD h → ∃ bD, Inv G is bef n L (l.reverse ++ D) aL bD h ∧ OrdD pre (l.reverse ++ D) ∧ K bD h
  | [], D, xs, aD, _, hm, I, o, hw => by
    simp at hm
    subst hm
    exact ⟨aD, I, o, hw⟩
  | i :: l, D, xs, aD, ho, hm, I, o, hw => by
    simp only [okPre, Bool.and_eq_true, decide_eq_true_eq, Bool.not_eq_true', List.all_eq_true, bne_iff_ne, ne_eq] at ho
    obtain ⟨⟨⟨⟨h1, h2⟩, h3⟩, h4⟩, h5⟩ := ho
    have hiD : i ∉ D := by simpa using h2
    have hp : ∀ p ∈ pre i, p ∈ D := fun p hp => by simpa using h3 p hp
    rw [List.mapM_cons] at hm
    simp only [Option.bind_eq_bind, Option.pure_def, Option.bind_eq_some_iff, Option.some.injEq] at hm
    obtain ⟨x, hx, ys, hys, rfl⟩ := hm
    have hself : ∀ d, x.dst = some d → d ∉ x.tmps := fun d hd ht => by
      rcases ck.look i i x x d hx hx hd ht with q | ⟨q, _⟩
      · exact hiD (Inv.noself ck I.clD h1 hiD hp i h1 q)
      · exact h4 q
    obtain ⟨v, q1, q2⟩ := Yield.make (kind_quiet hx h4) hself hw
    have I' := I.ahead ck h1 hiD hp h4 hx q2
    obtain ⟨bD, g1, g2, g3⟩ := pre_ahead ck l (i :: D) ys _ h5 hys I' ⟨hp, o⟩ q1
    exact ⟨bD, by simpa using g1, by simpa using g2, g3⟩

theorem Inv.sameAll {L D : List Nat} {aL aD : Tm} {h : Heap} (I : Inv G is bef n L D aL aD h) (e : ∀ i ∈ D, i ∈ L) : aL = aD := by
  funext t
  exact I.same t (fun i hi hL _ _ => absurd (e i hi) hL)

theorem tree_any (mono : MonoC C) (ck : Chk is bef pre n) {K : Tm → Heap → Prop} : ∀ (fuel : Nat) (T : NT) (tr : Tr) (L D q : List Nat) (aL aD : Tm) (h : Heap), okN (kindOf is bef) pre n true T D = true → cTree is bef T q = some tr → Inv G is bef n L D aL aD h → OrdD pre D →
    (∀ k ∈ D, kindOf is bef k ≠ 2 → k ∈ q) → left n L ≤ fuel → wpT C G fz tr K aD h → anyA C G fz is bef pre n K fuel L aL h := by
  intro fuel
  induction fuel with
  | zero =>
    intro T
    induction T with
    | pre l t iht =>
      intro tr L D q aL aD h ho hc I o hq hl hw
      obtain ⟨xs, tr', e1, e2, rfl⟩ := cTree_pre hc
      simp only [okN, Bool.and_eq_true, Bool.true_and] at ho
      obtain ⟨bD, g1, g2, g3⟩ := pre_ahead ck l D xs aD ho.1 e1 I o hw
      refine iht tr' L _ (q ++ l) aL bD h ho.2 e2 g1 g2 (fun k hk hkk => ?_) hl g3
      rcases List.mem_append.1 hk with hk | hk
      · exact List.mem_append_right _ (by simpa using hk)
      · exact List.mem_append_left _ (hq k hk hkk)
    | done =>
      intro tr L D q aL aD h ho hc I o hq hl hw
      have hall : ∀ i, i < n → i ∈ L := left_zero (Nat.le_zero.1 hl)
      have hs := I.sameAll (fun i hi => hall i (I.lt i hi))
      simp only [cTree, Option.some.injEq] at hc
      subst hc
      exact ⟨fun i r => r.2.1 (hall i r.1), hs ▸ hw⟩
    | act j t _ =>
      intro tr L D q aL aD h ho hc I o hq hl hw
      have hall : ∀ i, i < n → i ∈ L := left_zero (Nat.le_zero.1 hl)
      simp only [okN, Bool.and_eq_true, decide_eq_true_eq, Bool.not_eq_true'] at ho
      obtain ⟨⟨⟨⟨⟨_, h1⟩, h2⟩, _⟩, h3⟩, h4⟩ := ho
      exact absurd (I.sub j (hall j h1)) (by simpa using h2)
    | both x y _ _ =>
      intro tr L D q aL aD h ho hc I o hq hl hw
      have hall : ∀ i, i < n → i ∈ L := left_zero (Nat.le_zero.1 hl)
      simp only [okN, Bool.and_eq_true] at ho
      obtain ⟨i, h1, h2, _⟩ := head_ready x ho.1.2
      exact absurd (I.sub i (hall i h1)) h2
  | succ fuel ih =>
    intro T
    -- what is common to what is no 'pre'
    have main : ∀ (T : NT) (tr : Tr) (L D q : List Nat) (aL aD : Tm) (h : Heap), okN (kindOf is bef) pre n true T D = true → complete pre n (heads T) D = true → (T = .done ∨ ∃ i, i < n ∧ i ∉ D ∧ ∀ p ∈ pre i, p ∈ D) → cTree is bef T q = some tr → Inv G is bef n L D aL aD h → OrdD pre D →
        (∀ k ∈ D, kindOf is bef k ≠ 2 → k ∈ q) → left n L ≤ fuel + 1 → wpT C G fz tr K aD h → anyA C G fz is bef pre n K (fuel + 1) L aL h := by
      intro T tr L D q aL aD h ho hcp hT hc I o hq hl hw
      refine ⟨fun hno => ?_, fun i r => ?_⟩
      · have hDL : ∀ i ∈ D, i ∈ L := fun i hi => Classical.byContradiction fun hL => by
          obtain ⟨k, k1, k2, k3⟩ := o.first ⟨i, hi, hL⟩
          exact hno k ⟨I.lt k k1, k2, k3⟩
        rcases hT with rfl | ⟨i, h1, h2, h3⟩
        · have hs := I.sameAll hDL
          simp only [cTree, Option.some.injEq] at hc
          subst hc
          exact hs ▸ hw
        · exact (hno i ⟨h1, fun q => h2 (I.sub i q), fun p hp => hDL p (h3 p hp)⟩).elim
      · by_cases hiD : i ∈ D
        · -- it was done ahead
          have hiL := r.2.1
          have hk := I.quiet i hiD hiL
          have hsz : i < is.size := by rw [ck.size]; exact r.1
          have hx : is[i]? = some is[i] := Array.getElem?_eq_getElem hsz
          refine ⟨is[i], hx, ?_⟩
          rw [if_neg hk]
          refine (I.yield i hiD hiL _ hx).done (I.agree ck r hx) (kind_quiet hx hk) (fun b' h1 h2 => ?_)
          have I' := I.catch ck r hiD hx h1 h2
          have hl' : left n (i :: L) ≤ fuel := by have := left_less r.1 hiL; omega
          exact ih T tr (i :: L) D q b' aD h ho hc I' o hq hl' hw
        · -- it acts
          have hi : i ∈ heads T := by
            simp only [complete, List.all_eq_true, Bool.or_eq_true, Bool.not_eq_true'] at hcp
            rcases hcp i (List.mem_range.2 r.1) with (q | q) | q
            · exact absurd (by simpa using q) hiD
            · have : (pre i).all D.contains = true := by
                rw [List.all_eq_true]
                intro p hp
                simpa using I.sub p (r.2.2 p hp)
              rw [this] at q
              cases q
            · simpa using q
          obtain ⟨x, t', tr', e1, e2, e3, e4, e5, e6, e7⟩ := branch T true tr ho hi hc hw
          refine ⟨x, e1, ?_⟩
          rw [if_pos e4]
          have hl' : left n (i :: L) ≤ fuel := by have := left_less r.1 r.2.1; omega
          have hord : OrdD pre (i :: D) := ⟨fun p hp => I.sub p (r.2.2 p hp), o⟩
          have hq' : ∀ k ∈ i :: D, kindOf is bef k ≠ 2 → k ∈ q := fun k hk hkk => by
            rcases List.mem_cons.1 hk with rfl | hk
            · exact absurd e4 hkk
            · exact hq k hk hkk
          refine wpI_transfer mono (I.agree ck r e1) (fun v h' hr hK => ?_) (fun hK => ?_) e7
          · refine ih t' tr' (i :: L) (i :: D) q _ _ h' e5 e6 (I.act ck hiD r e1 (fun j hj hjL hb y hy hY => ?_)) hord hq' hl' hK
            have hkj := I.quiet j hj hjL
            have hkq := kind_quiet hy hkj
            by_cases k0 : kindI y.op = 0
            · unfold Yield at hY ⊢
              cases hg : y.g with
              | none =>
                rw [hg] at hY
                obtain ⟨u, q1, q2⟩ := hY
                exact ⟨u, (step_inert k0 q1).2 h', q2⟩
              | some p =>
                obtain ⟨t, bb⟩ := p
                rw [hg] at hY
                obtain ⟨c, q1, q2, q3⟩ := hY
                refine ⟨c, q1, fun hc => ?_, q3⟩
                obtain ⟨u, q4, q5⟩ := q2 hc
                exact ⟨u, (step_inert k0 q4).2 h', q5⟩
            · have k1 : kindI y.op = 1 := by
                rcases kind_three y.op with e | e | e
                · exact absurd e k0
                · exact e
                · exact absurd e hkq
              obtain ⟨d, hd⟩ := ck.read j y hy k1 hkj
              have hm := rrOk_mem hr y.g d y.op (rrFor_mem (hq j hj hkj) hb hy k1 hd)
              unfold Yield at hY ⊢
              cases hg : y.g with
              | none =>
                rw [hg] at hm
                exact ⟨_, hm, fun d' hd' => by rw [hd] at hd'; injection hd' with hd'; rw [hd']⟩
              | some p =>
                obtain ⟨t, bb⟩ := p
                rw [hg] at hY hm
                obtain ⟨c, q1, q2, q3⟩ := hY
                exact ⟨c, q1, fun hc => ⟨_, hm (want_true (by rw [q1, hc])), fun d' hd' => by rw [hd] at hd'; injection hd' with hd'; rw [hd']⟩, q3⟩
          · exact ih t' tr' (i :: L) (i :: D) q _ _ h e5 e6 (I.act ck hiD r e1 (fun j hj hjL hb y hy hY => hY)) hord hq' hl' hK
    induction T with
    | pre l t iht =>
      intro tr L D q aL aD h ho hc I o hq hl hw
      obtain ⟨xs, tr', e1, e2, rfl⟩ := cTree_pre hc
      simp only [okN, Bool.and_eq_true, Bool.true_and] at ho
      obtain ⟨bD, g1, g2, g3⟩ := pre_ahead ck l D xs aD ho.1 e1 I o hw
      refine iht tr' L _ (q ++ l) aL bD h ho.2 e2 g1 g2 (fun k hk hkk => ?_) hl g3
      rcases List.mem_append.1 hk with hk | hk
      · exact List.mem_append_right _ (by simpa using hk)
      · exact List.mem_append_left _ (hq k hk hkk)
    | done =>
      intro tr L D q aL aD h ho hc I o hq hl hw
      have ho' := ho
      simp only [okN, Bool.and_eq_true, Bool.true_and] at ho'
      exact main .done tr L D q aL aD h ho (by simpa [heads] using ho') (.inl rfl) hc I o hq hl hw
    | act j t _ =>
      intro tr L D q aL aD h ho hc I o hq hl hw
      have ho' := ho
      simp only [okN, Bool.and_eq_true, decide_eq_true_eq, Bool.not_eq_true', Bool.not_true, Bool.false_or, List.all_eq_true] at ho'
      obtain ⟨⟨⟨⟨⟨h0, h1⟩, h2⟩, h5⟩, h3⟩, h4⟩ := ho'
      exact main _ tr L D q aL aD h ho (by simpa [heads] using h0) (.inr ⟨j, h1, by simpa using h2, fun p hp => by simpa using h5 p hp⟩) hc I o hq hl hw
    | both x y _ _ =>
      intro tr L D q aL aD h ho hc I o hq hl hw
      have ho' := ho
      simp only [okN, Bool.and_eq_true, Bool.not_true, Bool.false_or] at ho'
      exact main _ tr L D q aL aD h ho (by simpa [heads] using ho'.1.1) (.inr (head_ready x ho'.1.2)) hc I o hq hl hw

end Go.Am

/- The abstract machine, 22: code, functions. -/
namespace Go.Am
variable {P : Program} {G : Nat → V} {ρ ρ0 : Ren} {h : Heap} {w w0 : World} {N : Nat} {fz : List Nat} {ops : Array Oper}

theorem calls0umono : MonoC (Calls0 P G) := fun _ _ _ _ _ m c => c.mono m

def QG (G : Nat → V) (N : Nat) (ρ0 : Ren) (w0 : World) (Q : Ex → Tm → Heap → Prop) : Exit → Act → World → Prop
  | .normal, act, w => Good G N ρ0 w0 (Q .normal) act w
  | .exit id, act, w => Good G N ρ0 w0 (Q (.exit id)) act w
  | .ret, act, w => Good G N ρ0 w0 (Q .ret) act w
  | _, _, _ => False

theorem ready_iff {L : List Nat} {listed : Array Bool} (hsz : listed.size = ops.size) (hL : ∀ j, listed.getD j false = true ↔ j ∈ L) (i : Nat) : i ∈ Region.ready .any ops listed ↔ ReadyA (preOf ops) ops.size L i := by
  rw [mem_ready]
  unfold ReadyA preOf
  constructor
  · rintro ⟨h0, o, ho, hall⟩
    have hi : i < ops.size := (Array.getElem?_eq_some_iff.1 ho).1
    refine ⟨hi, fun hm => ?_, fun p hp => ?_⟩
    · have := (hL i).2 hm
      have hlt : i < listed.size := by omega
      simp [Array.getD_eq_getD_getElem?, hlt] at this h0
      rw [this] at h0
      cases h0
    · rw [ho] at hp
      simp only [List.mem_map, List.mem_filter] at hp
      obtain ⟨e, ⟨he, hb⟩, rfl⟩ := hp
      exact (hL _).1 (hall e (by simpa using he) hb)
  · rintro ⟨hi, hm, hp⟩
    have hlt : i < listed.size := by omega
    refine ⟨?_, ops[i], Array.getElem?_eq_getElem hi, fun e he hb => ?_⟩
    · have : ¬ listed.getD i false = true := fun q => hm ((hL i).1 q)
      simpa [Array.getD_eq_getD_getElem?, hlt] using this
    · refine (hL _).2 (hp _ ?_)
      rw [Array.getElem?_eq_getElem hi]
      simp only [List.mem_map, List.mem_filter]
      exact ⟨e, ⟨by simpa using he, hb⟩, rfl⟩

theorem any_sound {Q : Ex → Tm → Heap → Prop} {is : Array Ins} {bef : Nat → Nat → Bool} (his : ∀ (i : Nat) (x : Ins), is[i]? = some x → ∃ o : Oper, ops[i]? = some o ∧ cIns P N ops o = some x) :
    ∀ (fuel : Nat) (L : List Nat) (listed : Array Bool) (act : Act) (w : World), listed.size = ops.size → (∀ j, listed.getD j false = true ↔ j ∈ L) →
      Good G N ρ0 w0 (anyA (Calls0 P G) G fz is bef (preOf ops) ops.size (Q .normal) fuel L) act w → wpAny P .any ops (QG G N ρ0 w0 Q) fuel listed act w
  | 0, L, listed, act, w, hsz, hL, g => by
    obtain ⟨ρ, h, a, st, R, A, hno, hK⟩ := g
    refine ⟨?_, ρ, h, a, st, R, A, hK⟩
    cases hr : Region.ready .any ops listed with
    | nil => rfl
    | cons i l => exact absurd ((ready_iff hsz hL i).1 (by rw [hr]; exact List.mem_cons_self ..)) (hno i)
  | fuel + 1, L, listed, act, w, hsz, hL, g => by
    obtain ⟨ρ, h, a, st, R, A, hno, hK⟩ := g
    refine ⟨fun hr => ⟨ρ, h, a, st, R, A, hno fun i q => ?_⟩, fun i hi => ?_⟩
    · have := (ready_iff hsz hL i).2 q
      rw [hr] at this
      cases this
    · have rd := (ready_iff hsz hL i).1 hi
      obtain ⟨x, hx, hw⟩ := hK i rd
      obtain ⟨o, ho, hc⟩ := his i x hx
      refine wpOp_mono (fun act w g => any_sound his fuel (i :: L) _ act w (by simpa using hsz) (fun j => ?_) g) (one_sound (ins := { x with rr := [] }) ho hc ⟨rfl, rfl, rfl⟩ st R A hw)
      by_cases hij : i = j
      · subst hij
        have hlt : i < listed.size := by have := rd.1; omega
        simp [Array.getD_eq_getD_getElem?, hlt]
      · rw [getD_set_ne false hij, hL]
        simp [Ne.symm hij]

theorem chk_of {is : Array Ins} {bef : Nat → Nat → Bool} {pre : Nat → List Nat} {n : Nat} (hs : is.size = n) (e : chkDraw is bef pre n = true) : Chk is bef pre n := by
  simp only [chkDraw, Bool.and_eq_true, List.all_eq_true, List.mem_range] at e
  obtain ⟨e1, e2⟩ := e
  have lt : ∀ {i : Nat} {x : Ins}, is[i]? = some x → i < n := fun h => by rw [← hs]; exact (Array.getElem?_eq_some_iff.1 h).1
  refine ⟨hs, fun i j x y d hx hy h1 h2 => ?_, fun i j x y d hx hy h1 h2 => ?_, fun i j hi hj hb => ?_, fun i x hx h1 h2 => ?_⟩
  · have := e1 i (lt hx) j (lt hy)
    simp only [chkPair, dstOf, hx, hy, Option.bind_some, h1, h2, Bool.and_eq_true, Bool.or_eq_true, beq_iff_eq, bne_self_eq_false, Bool.false_eq_true, or_false] at this
    exact this.1.1
  · have := e1 i (lt hx) j (lt hy)
    simp only [chkPair, dstOf, tmpsOf, hx, hy, Option.bind_some, Option.map_some, Option.getD_some, h1, Bool.and_eq_true, Bool.or_eq_true, Bool.not_eq_true', beq_iff_eq] at this
    rcases this.1.2 with (q | q) | q
    · rw [List.contains_eq_mem] at q
      simp at q
      exact absurd h2 q
    · exact .inl q
    · exact .inr q
  · have := e1 i hi j hj
    simp only [chkPair, Bool.and_eq_true, Bool.or_eq_true, Bool.not_eq_true'] at this
    rcases this.2 with (q | q) | q
    · rw [hb] at q; cases q
    · exact .inl (by simpa using q)
    · rw [List.any_eq_true] at q
      exact .inr q
  · have := e2 i (lt hx)
    simp only [Bool.or_eq_true, bne_iff_ne, ne_eq, dstOf, hx, Option.bind_some] at this
    have hk : kindOf is bef i = 1 := by
      unfold kindOf at h2 ⊢
      rw [hx] at h2 ⊢
      simp only at h2 ⊢
      rw [if_neg (fun hc => h2 (by rw [if_pos hc]))]
      exact h1
    rcases this with q | q
    · exact absurd hk q
    · exact Option.isSome_iff_exists.1 q

theorem Good.world {K : Tm → Heap → Prop} {act : Act} (g : Good G N ρ0 w0 K act w) {w' : World} (e : w'.heap = w.heap) (e1 : w'.os = w.os) (e2 : w'.tape = w.tape) (e3 : w'.output = w.output) : Good G N ρ0 w0 K act w' := by
  obtain ⟨ρ, h, a, st, R, A, hK⟩ := g
  have st' : Step ρ w ρ w' := ⟨⟨fun _ _ h => h, fun _ _ h => h, fun _ h => h, fun _ _ => by rw [e]⟩, by rw [e]; exact Nat.le_refl _, e1, e2, e3⟩
  exact ⟨ρ, h, a, st.trans st', R.same e, A.mono st'.toLe, hK⟩

theorem Inv.start {is : Array Ins} {bef : Nat → Nat → Bool} {n : Nat} (a : Tm) (h : Heap) : Inv G is bef n [] [] a a h where
  sub _ hi := hi
  lt _ hi := absurd hi List.not_mem_nil
  clD _ hi := absurd hi List.not_mem_nil
  clL _ hi := absurd hi List.not_mem_nil
  quiet _ hi := absurd hi List.not_mem_nil
  same _ _ := rfl
  yield _ hi := absurd hi List.not_mem_nil

theorem draw_sound (hm : P.follows .mixedOrders = true) {id : Nat} {tr : Cd} (e : cDraw P N ops = some tr) {Q : Ex → Tm → Heap → Prop} {act : Act} (g : Good G N ρ0 w0 (wpC (Calls0 P G) G fz tr Q) act w) : (Code.region id ops true).wp P (QG G N ρ0 w0 Q) act w := by
  unfold cDraw at e
  split at e
  · cases e
  · rename_i is hc
    simp only at e
    split at e
    · rename_i hck
      rw [Bool.and_eq_true] at hck
      obtain ⟨c1, c2⟩ := hck
      obtain ⟨t, ht, rfl⟩ := map2 e
      obtain ⟨hl, hq⟩ := cInsL_spec hc
      have hsz : is.toArray.size = ops.size := by simp [hl]
      have ck := chk_of hsz c1
      refine wp_region_any hm (any_sound (is := is.toArray) (bef := befOf ops) (fz := fz) (fun i x hx => ?_) ops.size [] _ _ _ (by simp) (fun j => ?_) ?_)
      · obtain ⟨o, h1, h2⟩ := hq i x (by simpa using hx)
        exact ⟨o, by simpa using h1, h2⟩
      · simp [Array.getD_eq_getD_getElem?, Array.getElem?_replicate]
        split <;> simp
      · refine Good.world (w := w) (g.mono fun a h hw => ?_) rfl rfl rfl rfl
        refine tree_any calls0umono ck ops.size _ t [] [] [] a a h c2 ht (Inv.start a h) trivial (fun k hk => absurd hk List.not_mem_nil) ?_ hw
        unfold left
        exact Nat.le_trans (List.countP_le_length) (by simp)
    · cases e

theorem code_sound (hm : P.follows .mixedOrders = true) : ∀ (c : Code) (cd : Cd), cCode P N c = some cd → ∀ (Q : Ex → Tm → Heap → Prop) (act : Act) (w : World), Good G N ρ0 w0 (wpC (Calls0 P G) G fz cd Q) act w → c.wp P (QG G N ρ0 w0 Q) act w := by
  intro c
  induction c with
  | skip =>
    intro cd e Q act w g
    simp only [cCode, Option.some.injEq] at e
    subst e
    exact wp_skip g
  | region id ops draw =>
    intro cd e Q act w g
    simp only [cCode] at e
    split at e
    · rename_i hd
      rw [hd]
      exact draw_sound hm e g
    · rename_i hd
      have hd : draw = false := by simpa using hd
      subst hd
      obtain ⟨is, e1, rfl⟩ := map2 e
      obtain ⟨hl, hq⟩ := cInsL_spec e1
      refine wp_region (wpOps_sound is (List.range ops.size) (by simp [hl]) (fun k i j hk hj => ?_) g (fun _ _ q => q))
      obtain ⟨o, h1, h2⟩ := hq k j hj
      have : k = i := by
        rw [List.getElem?_eq_some_iff] at hk
        obtain ⟨_, hk⟩ := hk
        simpa using hk
      subst this
      exact ⟨o, by simpa using h1, h2⟩
  | seq x y ihx ihy =>
    intro cd e Q act w g
    simp only [cCode] at e
    split at e
    · rename_i a b e1 e2
      injection e with e
      subst e
      refine wp_seq (Code.wp_mono (fun e act w q => ?_) (ihx a e1 (thenQ (wpC (Calls0 P G) G fz b Q) Q) act w g))
      cases e with
      | normal => exact ihy b e2 Q act w q
      | exit id => exact q
      | ret => exact q
      | _ => exact q.elim
    · cases e
  | cond c x y ihx ihy =>
    intro cd e Q act w g
    simp only [cCode] at e
    split at e
    · rename_i z a b e0 e1 e2
      injection e with e
      subst e
      obtain ⟨ρ, h, a', st, R, A, hw⟩ := g
      simp only [wpC] at hw
      have hr := ev_sound R A e0
      split at hw
      · rename_i bb hb
        rw [hb] at hr
        have hv := hr.bool_inv
        cases bb with
        | true => exact wp_cond_true hv (ihx a e1 Q act w ⟨ρ, h, a', st, R, A, hw.1 rfl⟩)
        | false => exact wp_cond_false hv (ihy b e2 Q act w ⟨ρ, h, a', st, R, A, hw.2 rfl⟩)
      · exact hw.elim
    · cases e
  | block id x ihx =>
    intro cd e Q act w g
    simp only [cCode] at e
    obtain ⟨a, e1, rfl⟩ := map2 e
    refine wp_block (Code.wp_mono (fun e act w q => ?_) (ihx a e1 (blockQ id Q) act w g))
    cases e with
    | normal => exact q
    | exit id' =>
      show if id' = id then QG G N ρ0 w0 Q .normal act w else QG G N ρ0 w0 Q (.exit id') act w
      obtain ⟨ρ, h, a', st, R, A, hw⟩ := q
      simp only [blockQ] at hw
      by_cases hid : id' = id
      · rw [if_pos hid] at hw ⊢
        exact ⟨ρ, h, a', st, R, A, hw⟩
      · rw [if_neg hid] at hw ⊢
        exact ⟨ρ, h, a', st, R, A, hw⟩
    | ret => exact q
    | _ => exact q.elim
  | loop x ihx =>
    intro cd e Q act w g
    simp only [cCode] at e
    obtain ⟨a, e1, rfl⟩ := map2 e
    obtain ⟨ρ, h, a', st, R, A, J, ⟨n, hJ⟩, hstep⟩ := g
    have key : ∀ n m act w, m ≤ n → Good G N ρ0 w0 (fun a h => J a h m) act w → Code.rounds P x (QG G N ρ0 w0 Q) (n + 1) act w := by
      intro n
      induction n with
      | zero =>
        intro m act w hmn g
        refine Code.wp_mono (fun e act w q => ?_) (ihx a e1 _ act w (g.mono fun a h q => hstep a h m q))
        cases e with
        | normal =>
          obtain ⟨_, _, _, _, _, _, m', hlt, _⟩ := q
          omega
        | exit id => exact q
        | ret => exact q
        | _ => exact q.elim
      | succ n ihn =>
        intro m act w hmn g
        refine Code.wp_mono (fun e act w q => ?_) (ihx a e1 _ act w (g.mono fun a h q => hstep a h m q))
        cases e with
        | normal =>
          obtain ⟨ρ, h, a', st, R, A, m', hlt, hq⟩ := q
          exact ihn m' act w (by omega) ⟨ρ, h, a', st, R, A, hq⟩
        | exit id => exact q
        | ret => exact q
        | _ => exact q.elim
    exact wp_loop_rounds (n + 1) (key n n act w (Nat.le_refl _) ⟨ρ, h, a', st, R, A, hJ⟩)
  | exit id =>
    intro cd e Q act w g
    simp only [cCode, Option.some.injEq] at e
    subst e
    exact wp_exit g
  | ret =>
    intro cd e Q act w g
    simp only [cCode, Option.some.injEq] at e
    subst e
    exact wp_ret g
  | _ =>
    intro cd e
    simp [cCode] at e

/-! ### a function -/

theorem res_sound (R : Rel G ρ h w) {a : Tm} {act : Act} (A : ActOk ρ w N a act) : ∀ (rs : List ResultVar) (xs : List RVar), cRes P rs = some xs → ∀ vs : List V, xs.mapM (resOf a h) = some vs →
    ∃ us : List Value, (rs.mapM fun r => (match r with | .tmp t => Pure.pure (act.tmps.getD t Go.undef) | .cell c t => do loadVar t (← asAddr (act.tmps.getD c Go.undef)) : Sem Value)).run P w = .ok us w ∧ us.length = vs.length ∧ rs.length = vs.length ∧
      ∀ (j : Nat) (v : V), vs[j]? = some v → ∃ u : Value, us[j]? = some u ∧ RV ρ w v u
  | [], xs, e, vs, hv => by
    simp [cRes] at e
    subst e
    simp at hv
    subst hv
    exact ⟨[], by simp, rfl, rfl, fun j v h => by simp at h⟩
  | r :: rs, xs, e, vs, hv => by
    unfold cRes at e
    split at e
    · rename_i x ys e1 e2
      injection e with e
      subst e
      rw [List.mapM_cons] at hv
      simp only [Option.bind_eq_bind, Option.pure_def, Option.bind_eq_some_iff, Option.some.injEq] at hv
      obtain ⟨v, hv1, vs', hv2, rfl⟩ := hv
      obtain ⟨us, q1, q2, q3, q4⟩ := res_sound R A rs ys e2 vs' hv2
      have one : ∃ u, ((match r with | .tmp t => Pure.pure (act.tmps.getD t Go.undef) | .cell c t => do loadVar t (← asAddr (act.tmps.getD c Go.undef)) : Sem Value)).run P w = .ok u w ∧ RV ρ w v u := by
        cases r with
        | tmp t =>
          simp only [Option.some.injEq] at e1
          subst e1
          simp only [resOf, Option.some.injEq] at hv1
          subst hv1
          exact ⟨_, rfl, A.rv t⟩
        | cell c t =>
          simp only at e1
          split at e1
          · rename_i b n h1 h2
            injection e1 with e1
            subst e1
            simp only [resOf] at hv1
            obtain ⟨r', off, y, hu, hy, hr⟩ := load_run R h1 h2 (A.rv c) hv1
            exact ⟨y, by simp only [hu, asAddr]; simpa using hy, hr⟩
          · cases e1
      obtain ⟨u, hu1, hu2⟩ := one
      refine ⟨u :: us, ?_, by simp [q2], by simp [q3], fun j v' hj => ?_⟩
      · simp only [List.mapM_cons, Sem.run_bind, hu1, Result.andThen_ok, q1]
        rfl
      · cases j with
        | zero => simp at hj; subst hj; exact ⟨u, rfl, hu2⟩
        | succ j => exact q4 j v' (by simpa using hj)
    · cases e

theorem fn_sound (hm : P.follows .mixedOrders = true) {f : FuncId} {fn0 : Fn0} (e : cFn P f = some fn0) {args : List V} {R : V → Heap → Prop} (fz : List Nat) (hw : wpF (Calls0 P G) G fz fn0 args h R) : Calls0 P G f args h R := by
  unfold cFn at e
  split at e
  · cases e
  · rename_i fn hf
    split at e
    · cases e
    · rename_i c hb
      split at e
      · rename_i b r e1 e2
        split at e
        · rename_i hc
          injection e with e
          subst e
          obtain ⟨hlen, hw⟩ := hw
          simp only at hlen hw
          refine ⟨⟨fn, hf, by rw [hb]; rfl, hc.2⟩, fun ρ w vs Rr hv => ?_⟩
          refine calls_of_wp hf hb ?_
          have hsz : vs.size = args.length := hv.1
          have A : ActOk ρ w fn.ntmps (tm0 args) { tmps := vs ++ Array.replicate (fn.ntmps - vs.size) undef, defers := [] } := by
            refine ⟨by simp; have := hc.1; omega, rfl, fun t => ?_⟩
            simp only [tm0]
            by_cases ht : t < args.length
            · have h1 := hv.2 t args[t] (by simp [ht])
              have h2 : args.getD t .undef = args[t] := by simp [ht]
              have h3 : (vs ++ Array.replicate (fn.ntmps - vs.size) Go.undef).getD t Go.undef = vs.getD t Go.undef := by
                rw [Array.getD_eq_getD_getElem?, Array.getD_eq_getD_getElem?, Array.getElem?_append_left (by omega)]
              rw [h2, h3]
              exact h1
            · have h2 : args.getD t .undef = .undef := by simp [List.getD_eq_getElem?_getD, List.getElem?_eq_none (Nat.le_of_not_lt ht)]
              rw [h2]
              exact .undef _
          refine Code.wp_mono (fun e act w' q => ?_) (code_sound hm c b e1 _ _ w ⟨ρ, h, tm0 args, Step.refl ρ w, Rr, A, hw⟩)
          have fin : ∀ act w', Good G fn.ntmps ρ w (fun a h' => match retV a h' r with | some v => R v h' | none => False) act w' → act.defers = [] ∧ ∃ v, (results fn act.tmps).run P w' = .ok v w' ∧ Ends G ρ w R (.returned v) w' := by
            rintro act w' ⟨ρ', h', a', st, R', A', hq⟩
            refine ⟨A'.defers, ?_⟩
            split at hq
            · rename_i v hv'
              have hres : ∃ vs : List V, r.mapM (resOf a' h') = some vs ∧ ((∃ x, vs = [x] ∧ v = x) ∨ (vs.length ≠ 1 ∧ v = .tup vs)) := by
                unfold retV at hv'
                split at hv'
                · rename_i r0
                  exact ⟨[v], by simp [hv'], .inl ⟨v, rfl, rfl⟩⟩
                · rename_i hne
                  obtain ⟨vs, h1, rfl⟩ := map2 hv'
                  refine ⟨vs, h1, .inr ⟨fun hl => ?_, rfl⟩⟩
                  have hlr : r.length = vs.length := by
                    have : ∀ (l : List RVar) (vs : List V), l.mapM (resOf a' h') = some vs → l.length = vs.length := by
                      intro l
                      induction l with
                      | nil => intro vs h; simp at h; subst h; rfl
                      | cons x l ih =>
                        intro vs h
                        rw [List.mapM_cons] at h
                        simp only [Option.bind_eq_bind, Option.pure_def, Option.bind_eq_some_iff, Option.some.injEq] at h
                        obtain ⟨_, _, vs', h2, rfl⟩ := h
                        simp [ih vs' h2]
                    exact this r vs h1
                  rw [hl] at hlr
                  obtain ⟨r0, rfl⟩ := List.length_eq_one_iff.1 hlr
                  exact hne r0 rfl
              obtain ⟨vs', h1, h2⟩ := hres
              obtain ⟨us, q1, q2, q3, q4⟩ := res_sound R' A' fn.results.toList r e2 vs' h1
              have hrun : (results fn act.tmps).run P w' = .ok (if hh : us.toArray.size = 1 then us.toArray[0] else .tuple us.toArray) w' := by
                unfold results
                rw [Array.mapM_eq_mapM_toList]
                simp only [Sem.run_bind, Sem.run_map]
                exact congrArg (fun z : Result (List Value) => (z.andThen fun a w' => Result.ok a.toArray w').andThen fun a w' => Sem.run P (Pure.pure (if h : a.size = 1 then a[0] else Value.tuple a)) w') q1
              refine ⟨_, hrun, ρ', h', v, hq, st, R', ?_⟩
              rcases h2 with ⟨x, rfl, rfl⟩ | ⟨hl, rfl⟩
              · obtain ⟨u, hu1, hu2⟩ := q4 0 v rfl
                have hus : us = [u] := by
                  match us, q2, hu1 with
                  | [u'], _, hu1 => simp at hu1; rw [hu1]
                subst hus
                simpa using hu2
              · have hn : ¬ us.toArray.size = 1 := by simp [q2, hl]
                rw [dif_neg hn]
                refine .tup _ _ (by simp [q2]) (fun j u hj => ?_)
                obtain ⟨x, hx1, hx2⟩ := q4 j u hj
                have : us.toArray.getD j Go.undef = x := by simp [Array.getD_eq_getD_getElem?, hx1]
                rw [this]
                exact hx2
            · exact hq.elim
          cases e with
          | normal => exact fin act w' q
          | ret => exact fin act w' q
          | exit id =>
            obtain ⟨_, _, _, _, _, _, hq⟩ := q
            exact hq.elim
          | _ => exact q.elim
        · cases e
      · cases e

end Go.Am

/- Walking through compiled code: what each form means, as equations. -/
namespace Go.Am
variable {C : FuncId → List V → Heap → (V → Heap → Prop) → Prop} {G : Nat → V} {fz : List Nat} {Q : Ex → Tm → Heap → Prop} {a : Tm} {h : Heap} {K : Tm → Heap → Prop}

@[go_sem] theorem w_skip : wpC C G fz .skip Q a h = Q .normal a h := (rfl)
@[go_sem] theorem w_region {is : List Ins} : wpC C G fz (.region is) Q a h = wpIs C G fz is (Q .normal) a h := (rfl)
@[go_sem] theorem w_draw {t : Tr} : wpC C G fz (.draw t) Q a h = wpT C G fz t (Q .normal) a h := (rfl)
@[go_sem] theorem w_seq {x y : Cd} : wpC C G fz (.seq x y) Q a h = wpC C G fz x (thenQ (wpC C G fz y Q) Q) a h := (rfl)
@[go_sem] theorem w_block {id : Nat} {x : Cd} : wpC C G fz (.block id x) Q a h = wpC C G fz x (blockQ id Q) a h := (rfl)
@[go_sem] theorem w_exit {id : Nat} : wpC C G fz (.exit id) Q a h = Q (.exit id) a h := (rfl)
@[go_sem] theorem w_ret : wpC C G fz .ret Q a h = Q .ret a h := (rfl)
theorem w_cond {c : Opd} {x y : Cd} : wpC C G fz (.cond c x y) Q a h = (match c.ev G a with | .bool b => (b = true → wpC C G fz x Q a h) ∧ (b = false → wpC C G fz y Q a h) | _ => False) := (rfl)
@[go_sem] theorem w_nil : wpIs C G fz [] K a h = K a h := (rfl)
@[go_sem] theorem w_cons {i : Ins} {is : List Ins} : wpIs C G fz (i :: is) K a h = wpI C G fz i (wpIs C G fz is K) a h := (rfl)
@[go_sem] theorem w_done : wpT C G fz .done K a h = K a h := (rfl)
@[go_sem] theorem w_pre {is : List Ins} {t : Tr} : wpT C G fz (.pre is t) K a h = wpIs C G [] is (wpT C G fz t K) a h := (rfl)
@[go_sem] theorem w_act {i : Ins} {t : Tr} : wpT C G fz (.act i t) K a h = wpI C G fz i (wpT C G fz t K) a h := (rfl)
@[go_sem] theorem w_both {x y : Tr} : wpT C G fz (.both x y) K a h = (wpT C G fz x K a h ∧ wpT C G fz y K a h) := (rfl)
@[go_sem] theorem w_then {N : Tm → Heap → Prop} : thenQ N Q .normal a h = N a h := (rfl)
@[go_sem] theorem w_thenX {N : Tm → Heap → Prop} {id : Nat} : thenQ N Q (.exit id) a h = Q (.exit id) a h := (rfl)
@[go_sem] theorem w_thenR {N : Tm → Heap → Prop} : thenQ N Q .ret a h = Q .ret a h := (rfl)
@[go_sem] theorem w_blockN {id : Nat} : blockQ id Q .normal a h = Q .normal a h := (rfl)
@[go_sem] theorem w_blockR {id : Nat} : blockQ id Q .ret a h = Q .ret a h := (rfl)
@[go_sem] theorem w_blockX {id id' : Nat} : blockQ id Q (.exit id') a h = if id' = id then Q .normal a h else Q (.exit id') a h := (rfl)
theorem w_loop {x : Cd} (J : Tm → Heap → Nat → Prop) (n : Nat) (h0 : J a h n) (hs : ∀ a h n, J a h n → wpC C G fz x (thenQ (fun a' h' => ∃ m, m < n ∧ J a' h' m) Q) a h) : wpC C G fz (.loop x) Q a h := ⟨J, ⟨n, h0⟩, hs⟩

@[go_sem] theorem i_none {d : Option Nat} {op : I} {rr} : wpI C G fz ⟨d, none, op, rr⟩ K a h = wpOp1 C G fz ⟨d, none, op, rr⟩ K a h := (rfl)
theorem i_some {d : Option Nat} {t : Nat} {b : Bool} {op : I} {rr} : wpI C G fz ⟨d, some (t, b), op, rr⟩ K a h = (match want b (a t) with | some true => wpOp1 C G fz ⟨d, some (t, b), op, rr⟩ K a h | some false => K (updO a d (.tup [])) h | none => False) := (rfl)
@[go_sem] theorem w_condT {c : Opd} {x y : Cd} (e : c.ev G a = .bool true) : wpC C G fz (.cond c x y) Q a h = wpC C G fz x Q a h := by
  rw [w_cond, e]
  simp
@[go_sem] theorem w_condF {c : Opd} {x y : Cd} (e : c.ev G a = .bool false) : wpC C G fz (.cond c x y) Q a h = wpC C G fz y Q a h := by
  rw [w_cond, e]
  simp
@[go_sem] theorem i_tt {d : Option Nat} {t : Nat} {op : I} {rr} (e : a t = .bool true) : wpI C G fz ⟨d, some (t, true), op, rr⟩ K a h = wpOp1 C G fz ⟨d, some (t, true), op, rr⟩ K a h := by
  rw [i_some, e]
  rfl
@[go_sem] theorem i_tf {d : Option Nat} {t : Nat} {op : I} {rr} (e : a t = .bool false) : wpI C G fz ⟨d, some (t, true), op, rr⟩ K a h = K (updO a d (.tup [])) h := by
  rw [i_some, e]
  rfl
@[go_sem] theorem i_ff {d : Option Nat} {t : Nat} {op : I} {rr} (e : a t = .bool false) : wpI C G fz ⟨d, some (t, false), op, rr⟩ K a h = wpOp1 C G fz ⟨d, some (t, false), op, rr⟩ K a h := by
  rw [i_some, e]
  rfl
@[go_sem] theorem i_ft {d : Option Nat} {t : Nat} {op : I} {rr} (e : a t = .bool true) : wpI C G fz ⟨d, some (t, false), op, rr⟩ K a h = K (updO a d (.tup [])) h := by
  rw [i_some, e]
  rfl
@[go_sem] theorem i_no {d : Option Nat} {t : Nat} {b : Bool} {op : I} {rr} (e : a t = .tup []) : wpI C G fz ⟨d, some (t, b), op, rr⟩ K a h = K (updO a d (.tup [])) h := by
  rw [i_some, e]
  rfl
@[go_sem] theorem o_call {d g f args rr} : wpOp1 C G fz ⟨d, g, .call f args, rr⟩ K a h = C f (args.map (·.ev G a)) h (putD G fz ⟨d, g, .call f args, rr⟩ K a) := (rfl)
@[go_sem] theorem o_callv {d g x args rr} : wpOp1 C G fz ⟨d, g, .callv x args, rr⟩ K a h = (match x.ev G a with | .fn f caps => C f (args.map (·.ev G a) ++ caps) h (putD G fz ⟨d, g, .callv x args, rr⟩ K a) | _ => False) := (rfl)
@[go_sem] theorem o_isnil {d g neg x rr} : wpOp1 C G fz ⟨d, g, .isnil neg x, rr⟩ K a h = (match x.ev G a with
    | .nil => ∀ b, putD G fz ⟨d, g, .isnil neg x, rr⟩ K a (.bool b) h
    | .lst [] => ∀ b, putD G fz ⟨d, g, .isnil neg x, rr⟩ K a (.bool b) h
    | .lst (_ :: _) => putD G fz ⟨d, g, .isnil neg x, rr⟩ K a (.bool neg) h
    | .slc _ _ _ _ => putD G fz ⟨d, g, .isnil neg x, rr⟩ K a (.bool neg) h
    | _ => False) := rfl

/-- What an instruction that is no call comes to. -/
def goO (G : Nat → V) (fz : List Nat) (i : Ins) (K : Tm → Heap → Prop) (a : Tm) : Option (V × Heap) → Prop
  | some (v, h') => putD G fz i K a v h'
  | none => False
@[go_sem] theorem goO_some {i : Ins} {v : V} {h' : Heap} : goO G fz i K a (some (v, h')) = putD G fz i K a v h' := (rfl)

@[go_sem] theorem o_mov {d g q0 rr} : wpOp1 C G fz ⟨d, g, .mov q0, rr⟩ K a h = goO G fz ⟨d, g, .mov q0, rr⟩ K a (stepI G a h (.mov q0)) := (rfl)
@[go_sem] theorem o_pick {d g q0 q1 q2 rr} : wpOp1 C G fz ⟨d, g, .pick q0 q1 q2, rr⟩ K a h = goO G fz ⟨d, g, .pick q0 q1 q2, rr⟩ K a (stepI G a h (.pick q0 q1 q2)) := (rfl)
@[go_sem] theorem o_box {d g q0 q1 q2 rr} : wpOp1 C G fz ⟨d, g, .box q0 q1 q2, rr⟩ K a h = goO G fz ⟨d, g, .box q0 q1 q2, rr⟩ K a (stepI G a h (.box q0 q1 q2)) := (rfl)
@[go_sem] theorem o_build {d g q0 q1 rr} : wpOp1 C G fz ⟨d, g, .build q0 q1, rr⟩ K a h = goO G fz ⟨d, g, .build q0 q1, rr⟩ K a (stepI G a h (.build q0 q1)) := (rfl)
@[go_sem] theorem o_bslice {d g q0 q1 q2 q3 q4 rr} : wpOp1 C G fz ⟨d, g, .bslice q0 q1 q2 q3 q4, rr⟩ K a h = goO G fz ⟨d, g, .bslice q0 q1 q2 q3 q4, rr⟩ K a (stepI G a h (.bslice q0 q1 q2 q3 q4)) := (rfl)
@[go_sem] theorem o_load {d g q0 q1 q2 rr} : wpOp1 C G fz ⟨d, g, .load q0 q1 q2, rr⟩ K a h = goO G fz ⟨d, g, .load q0 q1 q2, rr⟩ K a (stepI G a h (.load q0 q1 q2)) := (rfl)
@[go_sem] theorem o_store {d g q0 q1 q2 rr} : wpOp1 C G fz ⟨d, g, .store q0 q1 q2, rr⟩ K a h = goO G fz ⟨d, g, .store q0 q1 q2, rr⟩ K a (stepI G a h (.store q0 q1 q2)) := (rfl)
@[go_sem] theorem o_nilck {d g q0 rr} : wpOp1 C G fz ⟨d, g, .nilck q0, rr⟩ K a h = goO G fz ⟨d, g, .nilck q0, rr⟩ K a (stepI G a h (.nilck q0)) := (rfl)
@[go_sem] theorem o_bin {d g q0 q1 q2 rr} : wpOp1 C G fz ⟨d, g, .bin q0 q1 q2, rr⟩ K a h = goO G fz ⟨d, g, .bin q0 q1 q2, rr⟩ K a (stepI G a h (.bin q0 q1 q2)) := (rfl)
@[go_sem] theorem o_eq {d g q0 q1 q2 q3 rr} : wpOp1 C G fz ⟨d, g, .eq q0 q1 q2 q3, rr⟩ K a h = goO G fz ⟨d, g, .eq q0 q1 q2 q3, rr⟩ K a (stepI G a h (.eq q0 q1 q2 q3)) := (rfl)
@[go_sem] theorem o_un {d g q0 q1 rr} : wpOp1 C G fz ⟨d, g, .un q0 q1, rr⟩ K a h = goO G fz ⟨d, g, .un q0 q1, rr⟩ K a (stepI G a h (.un q0 q1)) := (rfl)
@[go_sem] theorem o_conv {d g q0 q1 rr} : wpOp1 C G fz ⟨d, g, .conv q0 q1, rr⟩ K a h = goO G fz ⟨d, g, .conv q0 q1, rr⟩ K a (stepI G a h (.conv q0 q1)) := (rfl)
@[go_sem] theorem o_b2s {d g q0 rr} : wpOp1 C G fz ⟨d, g, .b2s q0, rr⟩ K a h = goO G fz ⟨d, g, .b2s q0, rr⟩ K a (stepI G a h (.b2s q0)) := (rfl)
@[go_sem] theorem o_faddr {d g q0 q1 rr} : wpOp1 C G fz ⟨d, g, .faddr q0 q1, rr⟩ K a h = goO G fz ⟨d, g, .faddr q0 q1, rr⟩ K a (stepI G a h (.faddr q0 q1)) := (rfl)
@[go_sem] theorem o_fld {d g q0 q1 q2 q3 rr} : wpOp1 C G fz ⟨d, g, .fld q0 q1 q2 q3, rr⟩ K a h = goO G fz ⟨d, g, .fld q0 q1 q2 q3, rr⟩ K a (stepI G a h (.fld q0 q1 q2 q3)) := (rfl)
@[go_sem] theorem o_iaddr {d g q0 q1 q2 rr} : wpOp1 C G fz ⟨d, g, .iaddr q0 q1 q2, rr⟩ K a h = goO G fz ⟨d, g, .iaddr q0 q1 q2, rr⟩ K a (stepI G a h (.iaddr q0 q1 q2)) := (rfl)
@[go_sem] theorem o_iaddrA {d g q0 q1 q2 q3 rr} : wpOp1 C G fz ⟨d, g, .iaddrA q0 q1 q2 q3, rr⟩ K a h = goO G fz ⟨d, g, .iaddrA q0 q1 q2 q3, rr⟩ K a (stepI G a h (.iaddrA q0 q1 q2 q3)) := (rfl)
@[go_sem] theorem o_idxA {d g q0 q1 q2 q3 q4 rr} : wpOp1 C G fz ⟨d, g, .idxA q0 q1 q2 q3 q4, rr⟩ K a h = goO G fz ⟨d, g, .idxA q0 q1 q2 q3 q4, rr⟩ K a (stepI G a h (.idxA q0 q1 q2 q3 q4)) := (rfl)
@[go_sem] theorem o_slice {d g q0 q1 q2 q3 q4 rr} : wpOp1 C G fz ⟨d, g, .slice q0 q1 q2 q3 q4, rr⟩ K a h = goO G fz ⟨d, g, .slice q0 q1 q2 q3 q4, rr⟩ K a (stepI G a h (.slice q0 q1 q2 q3 q4)) := (rfl)
@[go_sem] theorem o_mkslice {d g q0 q1 q2 q3 q4 q5 rr} : wpOp1 C G fz ⟨d, g, .mkslice q0 q1 q2 q3 q4 q5, rr⟩ K a h = goO G fz ⟨d, g, .mkslice q0 q1 q2 q3 q4 q5, rr⟩ K a (stepI G a h (.mkslice q0 q1 q2 q3 q4 q5)) := (rfl)
@[go_sem] theorem o_mkmap {d g rr} : wpOp1 C G fz ⟨d, g, .mkmap, rr⟩ K a h = goO G fz ⟨d, g, .mkmap, rr⟩ K a (stepI G a h (.mkmap)) := (rfl)
@[go_sem] theorem o_lookup {d g q0 q1 q2 q3 q4 rr} : wpOp1 C G fz ⟨d, g, .lookup q0 q1 q2 q3 q4, rr⟩ K a h = goO G fz ⟨d, g, .lookup q0 q1 q2 q3 q4, rr⟩ K a (stepI G a h (.lookup q0 q1 q2 q3 q4)) := (rfl)
@[go_sem] theorem o_mupd {d g q0 q1 q2 q3 rr} : wpOp1 C G fz ⟨d, g, .mupd q0 q1 q2 q3, rr⟩ K a h = goO G fz ⟨d, g, .mupd q0 q1 q2 q3, rr⟩ K a (stepI G a h (.mupd q0 q1 q2 q3)) := (rfl)
@[go_sem] theorem o_mentry {d g q0 q1 q2 q3 rr} : wpOp1 C G fz ⟨d, g, .mentry q0 q1 q2 q3, rr⟩ K a h = goO G fz ⟨d, g, .mentry q0 q1 q2 q3, rr⟩ K a (stepI G a h (.mentry q0 q1 q2 q3)) := (rfl)
@[go_sem] theorem o_estore {d g q0 q1 q2 rr} : wpOp1 C G fz ⟨d, g, .estore q0 q1 q2, rr⟩ K a h = goO G fz ⟨d, g, .estore q0 q1 q2, rr⟩ K a (stepI G a h (.estore q0 q1 q2)) := (rfl)
@[go_sem] theorem o_extract {d g q0 q1 rr} : wpOp1 C G fz ⟨d, g, .extract q0 q1, rr⟩ K a h = goO G fz ⟨d, g, .extract q0 q1, rr⟩ K a (stepI G a h (.extract q0 q1)) := (rfl)
@[go_sem] theorem o_len {d g q0 rr} : wpOp1 C G fz ⟨d, g, .len q0, rr⟩ K a h = goO G fz ⟨d, g, .len q0, rr⟩ K a (stepI G a h (.len q0)) := (rfl)
@[go_sem] theorem o_lenS {d g q0 rr} : wpOp1 C G fz ⟨d, g, .lenS q0, rr⟩ K a h = goO G fz ⟨d, g, .lenS q0, rr⟩ K a (stepI G a h (.lenS q0)) := (rfl)
@[go_sem] theorem o_lenM {d g q0 rr} : wpOp1 C G fz ⟨d, g, .lenM q0, rr⟩ K a h = goO G fz ⟨d, g, .lenM q0, rr⟩ K a (stepI G a h (.lenM q0)) := (rfl)
@[go_sem] theorem o_lenN {d g q0 rr} : wpOp1 C G fz ⟨d, g, .lenN q0, rr⟩ K a h = goO G fz ⟨d, g, .lenN q0, rr⟩ K a (stepI G a h (.lenN q0)) := (rfl)
@[go_sem] theorem o_append {d g q0 q1 q2 q3 q4 rr} : wpOp1 C G fz ⟨d, g, .append q0 q1 q2 q3 q4, rr⟩ K a h = goO G fz ⟨d, g, .append q0 q1 q2 q3 q4, rr⟩ K a (stepI G a h (.append q0 q1 q2 q3 q4)) := (rfl)
@[go_sem] theorem o_delete {d g q0 q1 q2 rr} : wpOp1 C G fz ⟨d, g, .delete q0 q1 q2, rr⟩ K a h = goO G fz ⟨d, g, .delete q0 q1 q2, rr⟩ K a (stepI G a h (.delete q0 q1 q2)) := (rfl)
@[go_sem] theorem o_minmax {d g q0 q1 q2 rr} : wpOp1 C G fz ⟨d, g, .minmax q0 q1 q2, rr⟩ K a h = goO G fz ⟨d, g, .minmax q0 q1 q2, rr⟩ K a (stepI G a h (.minmax q0 q1 q2)) := (rfl)
@[go_sem] theorem o_mkfn {d g q0 q1 rr} : wpOp1 C G fz ⟨d, g, .mkfn q0 q1, rr⟩ K a h = goO G fz ⟨d, g, .mkfn q0 q1, rr⟩ K a (stepI G a h (.mkfn q0 q1)) := (rfl)
@[go_sem] theorem o_mkiface {d g q0 q1 rr} : wpOp1 C G fz ⟨d, g, .mkiface q0 q1, rr⟩ K a h = goO G fz ⟨d, g, .mkiface q0 q1, rr⟩ K a (stepI G a h (.mkiface q0 q1)) := (rfl)
@[go_sem] theorem o_still {d g q0 rr} : wpOp1 C G fz ⟨d, g, .still q0, rr⟩ K a h = goO G fz ⟨d, g, .still q0, rr⟩ K a (stepI G a h (.still q0)) := (rfl)
@[go_sem] theorem o_clear {d g q0 q1 rr} : wpOp1 C G fz ⟨d, g, .clear q0 q1, rr⟩ K a h = goO G fz ⟨d, g, .clear q0 q1, rr⟩ K a (stepI G a h (.clear q0 q1)) := (rfl)
@[go_sem] theorem o_s2ap {d g q0 q1 rr} : wpOp1 C G fz ⟨d, g, .s2ap q0 q1, rr⟩ K a h = goO G fz ⟨d, g, .s2ap q0 q1, rr⟩ K a (stepI G a h (.s2ap q0 q1)) := (rfl)
@[go_sem] theorem o_idxS {d g q0 q1 rr} : wpOp1 C G fz ⟨d, g, .idxS q0 q1, rr⟩ K a h = goO G fz ⟨d, g, .idxS q0 q1, rr⟩ K a (stepI G a h (.idxS q0 q1)) := (rfl)
@[go_sem] theorem o_stop {d g rr} : wpOp1 C G fz ⟨d, g, .stop, rr⟩ K a h = goO G fz ⟨d, g, .stop, rr⟩ K a (stepI G a h (.stop)) := (rfl)

@[go_sem] theorem put_none {g op rr} {v : V} : putD G fz ⟨none, g, op, rr⟩ K a v h = (rrOk G a h rr ∧ K a h) := (rfl)
theorem put_some {d : Nat} {g op rr} {v : V} (hd : fz.contains d = false) : putD G fz ⟨some d, g, op, rr⟩ K a v h = (rrOk G a h rr ∧ K (upd a d v) h) := by
  simp only [putD, hd]
  rfl
@[go_sem] theorem put_some0 {d : Nat} {g op rr} {v : V} : putD G [] ⟨some d, g, op, rr⟩ K a v h = (rrOk G a h rr ∧ K (upd a d v) h) := put_some rfl
theorem put_fz {d : Nat} {g op rr} {v v' : V} {h' : Heap} (hd : fz.contains d = true) (hf : freezeV h v = some (v', h')) : putD G fz ⟨some d, g, op, rr⟩ K a v h = (rrOk G a h' rr ∧ K (upd a d v') h') := by
  simp only [putD, hd, hf]
  rfl
@[go_sem] theorem rr_nil : rrOk G a h [] = True := (rfl)

theorem upd_same {d : Nat} {v : V} : upd a d v d = v := by simp [upd]
theorem upd_diff {d t : Nat} {v : V} (e : t ≠ d) : upd a d v t = a t := by simp [upd, e]
@[go_sem] theorem e_t {n : Nat} : (Opd.t n).ev G a = a n := (rfl)
@[go_sem] theorem e_c {v : V} : (Opd.c v).ev G a = v := (rfl)
@[go_sem] theorem e_g {n : Nat} : (Opd.g n).ev G a = G n := (rfl)
@[go_sem] theorem e_f {n : Nat} : (Opd.f n).ev G a = .fn n [] := (rfl)

@[go_sem] theorem upd_app {d t : Nat} {v : V} : upd a d v t = if t = d then v else a t := (rfl)
@[go_sem] theorem updO_some {d : Nat} {v : V} : updO a (some d) v = upd a d v := (rfl)
@[go_sem] theorem updO_none {v : V} : updO a none v = a := (rfl)
@[go_sem] theorem tm0u0 {v : V} {vs : List V} : tm0 (v :: vs) 0 = v := (rfl)
@[go_sem] theorem tm0u1 {v0 v : V} {vs : List V} : tm0 (v0 :: v :: vs) 1 = v := (rfl)
@[go_sem] theorem tm0u2 {v0 v1 v : V} {vs : List V} : tm0 (v0 :: v1 :: v :: vs) 2 = v := (rfl)
@[go_sem] theorem tm0u3 {v0 v1 v2 v : V} {vs : List V} : tm0 (v0 :: v1 :: v2 :: v :: vs) 3 = v := (rfl)
@[go_sem] theorem ret_1 {r : RVar} : retV a h [r] = resOf a h r := (rfl)
@[go_sem] theorem ret_0 : retV a h [] = some (.tup []) := (rfl)
@[go_sem] theorem ret_2 {x y : Nat} : retV a h [.tmp x, .tmp y] = some (.tup [a x, a y]) := (rfl)
@[go_sem] theorem ret_3 {x y z : Nat} : retV a h [.tmp x, .tmp y, .tmp z] = some (.tup [a x, a y, a z]) := (rfl)
@[go_sem] theorem res_t {t : Nat} : resOf a h (.tmp t) = some (a t) := (rfl)
@[go_sem] theorem res_c {t n : Nat} {b : Bool} : resOf a h (.cell t b n) = loadV h b n (a t) := (rfl)

/-- What must hold where a function ends. -/
def postF (R : V → Heap → Prop) (rs : List RVar) : Ex → Tm → Heap → Prop
  | .exit _, _, _ => False
  | _, a, h => match retV a h rs with
    | some v => R v h
    | none => False
def okV (R : V → Heap → Prop) (h : Heap) : Option V → Prop
  | some v => R v h
  | none => False
@[go_sem] theorem post_ret {R : V → Heap → Prop} {rs : List RVar} : postF R rs .ret a h = okV R h (retV a h rs) := (rfl)
@[go_sem] theorem post_normal {R : V → Heap → Prop} {rs : List RVar} : postF R rs .normal a h = okV R h (retV a h rs) := (rfl)
@[go_sem] theorem okV_some {R : V → Heap → Prop} {v : V} : okV R h (some v) = R v h := (rfl)

theorem fn_walk {P : Program} (hm : P.follows .mixedOrders = true) {f : FuncId} {fn0 : Fn0} (e : cFn P f = some fn0) {args : List V} {R : V → Heap → Prop} (fz : List Nat) (hl : args.length = fn0.np)
    (hw : wpC (Calls0 P G) G fz fn0.body (postF R fn0.res) (tm0 args) h) : Calls0 P G f args h R := by
  refine fn_sound hm e fz ⟨hl, ?_⟩
  have key : ∀ Q' : Ex → Tm → Heap → Prop, (∀ e a h', postF R fn0.res e a h' = Q' e a h') → wpC (Calls0 P G) G fz fn0.body Q' (tm0 args) h := fun Q' hq => by
    have : postF R fn0.res = Q' := by
      funext e a h'
      exact hq e a h'
    rw [← this]
    exact hw
  exact key _ (fun e a h' => by cases e <;> rfl)

section steps
variable {x y z : Opd} {n m : Nat}
@[go_sem] theorem s_mov : stepI G a h (.mov x) = some (x.ev G a, h) := (rfl)
@[go_sem] theorem s_pick : stepI G a h (.pick z x y) = (match z.ev G a with | .bool true => some (x.ev G a, h) | .bool false => some (y.ev G a, h) | _ => none) := (rfl)
@[go_sem] theorem s_bin {op : BinOp} : stepI G a h (.bin op x y) = (binV op (x.ev G a) (y.ev G a)).map fun v => (v, h) := (rfl)
@[go_sem] theorem s_un {op : UnOp} : stepI G a h (.un op x) = (unV op (x.ev G a)).map fun v => (v, h) := (rfl)
@[go_sem] theorem s_eq {neg : Bool} {k : EqK} : stepI G a h (.eq neg k x y) = (eqV k (x.ev G a) (y.ev G a)).map fun b => (.bool (neg != b), h) := (rfl)
@[go_sem] theorem s_conv {k : IntKind} : stepI G a h (.conv k x) = (match x.ev G a with | .int _ n => some (.int k (k.wrap n), h) | _ => none) := (rfl)
@[go_sem] theorem s_nilck : stepI G a h (.nilck x) = (match x.ev G a with | .ptr o i s => some (.ptr o i s, h) | .cptr cs => some (.cptr cs, h) | .fn f cs => some (.fn f cs, h) | _ => none) := (rfl)
@[go_sem] theorem s_faddr : stepI G a h (.faddr x n) = (match x.ev G a with | .ptr o i s => some (.ptr o i (s + n), h) | .cptr cs => some (.cptr (cs.drop n), h) | _ => none) := (rfl)
@[go_sem] theorem s_extract : stepI G a h (.extract x n) = (match x.ev G a with | .tup vs => (vs[n]?).map fun v => (v, h) | _ => none) := (rfl)
@[go_sem] theorem s_len : stepI G a h (.len x) = (lenV (x.ev G a)).map fun (n : Nat) => (.int .i64 (n : Int), h) := (rfl)
@[go_sem] theorem s_lenS : stepI G a h (.lenS x) = (lenS (x.ev G a)).map fun (n : Nat) => (.int .i64 (n : Int), h) := (rfl)
@[go_sem] theorem s_lenN : stepI G a h (.lenN n) = some (.int .i64 n, h) := (rfl)
@[go_sem] theorem s_minmax {b : Bool} : stepI G a h (.minmax b x y) = (match x.ev G a, y.ev G a with | .int k m, .int k' n => if k = k' then some (.int k (if b then (if n > m then n else m) else (if n < m then n else m)), h) else none | _, _ => none) := (rfl)
@[go_sem] theorem s_mkfn {f : FuncId} {caps : List Opd} : stepI G a h (.mkfn f caps) = some (.fn f (caps.map (·.ev G a)), h) := (rfl)
@[go_sem] theorem s_mkiface {t : TypeId} : stepI G a h (.mkiface t x) = some (.iface t (x.ev G a), h) := (rfl)
@[go_sem] theorem s_mkmap : stepI G a h .mkmap = some (.map h.next, h.alloc (.map [] 0)) := (rfl)
@[go_sem] theorem s_load {b : Bool} : stepI G a h (.load b n x) = (loadV h b n (x.ev G a)).map fun v => (v, h) := (rfl)
end steps
@[go_sem] theorem len_nil : lenV .nil = some 0 := (rfl)
@[go_sem] theorem len_lst {xs : List V} : lenV (.lst xs) = some xs.length := (rfl)
@[go_sem] theorem len_slc {o off len room : Nat} : lenV (.slc o off len room) = some len := (rfl)
@[go_sem] theorem beq_ft : (false == true) = false := rfl
@[go_sem] theorem beq_tf : (true == false) = false := rfl
@[go_sem] theorem beq_tt : (true == true) = true := rfl
@[go_sem] theorem beq_ff : (false == false) = true := rfl
@[go_sem] theorem bne_fb {b : Bool} : (false != b) = b := by cases b <;> rfl
@[go_sem] theorem bne_tb {b : Bool} : (true != b) = !b := by cases b <;> rfl
@[go_sem] theorem eqv_bool {x y : Bool} : eqV .bool (.bool x) (.bool y) = some (x == y) := (rfl)
@[go_sem] theorem eqv_p1 : eqV .ptr .nilp .nilp = some true := (rfl)
@[go_sem] theorem eqv_p2 {o i s : Nat} : eqV .ptr .nilp (.ptr o i s) = some false := (rfl)
@[go_sem] theorem eqv_p3 {o i s : Nat} : eqV .ptr (.ptr o i s) .nilp = some false := (rfl)

attribute [go_sem] binV unV Option.map_some Option.map_none Option.bind_some List.map_cons List.map_nil

theorem wrap64 {x : Int} (h1 : -9223372036854775808 ≤ x) (h2 : x ≤ 9223372036854775807) : IntKind.i64.wrap x = x := by
  simp [IntKind.wrap, IntKind.bits, IntKind.signed]
  omega

end Go.Am

/- Memory: what stays; slices of one's own. -/
namespace Go.Am
variable {C : FuncId → List V → Heap → (V → Heap → Prop) → Prop} {G : Nat → V} {fz : List Nat} {Q : Ex → Tm → Heap → Prop} {a : Tm} {h h' : Heap} {K : Tm → Heap → Prop}

/-- All but S stays. -/
structure Fr (S : List Nat) (h h' : Heap) : Prop where
  next : h.next ≤ h'.next
  obj : ∀ p, p < h.next → p ∉ S → h'.obj p = h.obj p

theorem Fr.refl (S : List Nat) (h : Heap) : Fr S h h := ⟨Nat.le_refl _, fun _ _ _ => rfl⟩
theorem Fr.trans {S T : List Nat} {h h1 h2 : Heap} (x : Fr S h h1) (y : Fr T h1 h2) (e : ∀ k ∈ T, k ∈ S ∨ h.next ≤ k) : Fr S h h2 :=
  ⟨Nat.le_trans x.next y.next, fun p hp hS => by
    rw [y.obj p (Nat.lt_of_lt_of_le hp x.next) (fun hT => by rcases e p hT with q | q; exact hS q; omega)]
    exact x.obj p hp hS⟩
theorem Fr.mono {S T : List Nat} (x : Fr S h h') (e : ∀ k ∈ S, k ∈ T) : Fr T h h' := ⟨x.next, fun p hp hT => x.obj p hp (fun q => hT (e p q))⟩
theorem Fr.alloc (h : Heap) (x : Ob) : Fr [] h (h.alloc x) := ⟨Nat.le_succ _, fun p hp _ => by simp [Heap.alloc, Nat.ne_of_lt hp]⟩
theorem Fr.set (h : Heap) (o : Nat) (x : Ob) : Fr [o] h (h.set o x) := ⟨Nat.le_refl _, fun p _ hS => by simp at hS; simp [Heap.set, hS]⟩
theorem Fr.kill (h : Heap) (o : Nat) : Fr [o] h (h.kill o) := ⟨Nat.le_refl _, fun p _ hS => by simp at hS; simp [Heap.kill, hS]⟩
theorem Fr.at {S : List Nat} (x : Fr S h h') {o : Nat} {ob : Ob} (e : h.obj o = some ob) (hS : o ∉ S) : h'.obj o = some ob := by
  rw [x.obj o (Heap.lt_next e) hS]
  exact e

@[go_sem] theorem alloc_next {x : Ob} : (h.alloc x).next = h.next + 1 := (rfl)
@[go_sem] theorem set_next {o : Nat} {x : Ob} : (h.set o x).next = h.next := (rfl)
@[go_sem] theorem kill_next {o : Nat} : (h.kill o).next = h.next := (rfl)
theorem alloc_new {x : Ob} : (h.alloc x).obj h.next = some x := by simp [Heap.alloc]
theorem alloc_old {x : Ob} {o : Nat} (e : o ≠ h.next) : (h.alloc x).obj o = h.obj o := by simp [Heap.alloc, e]
theorem alloc_at {x y : Ob} {o : Nat} (e : h.obj o = some y) : (h.alloc x).obj o = some y := (Fr.alloc h x).at e (by simp)
theorem set_new {o : Nat} {x y : Ob} (e : h.obj o = some y) : (h.set o x).obj o = some x := by simp [Heap.set, e]
theorem set_old {o p : Nat} {x : Ob} (e : p ≠ o) : (h.set o x).obj p = h.obj p := by simp [Heap.set, e]
theorem kill_old {o p : Nat} (e : p ≠ o) : (h.kill o).obj p = h.obj p := by simp [Heap.kill, e]

theorem put_fz' {d : Nat} {g : Option (Nat × Bool)} {op : I} {rr : List (Option (Nat × Bool) × Nat × I)} {v v' : V} {h' : Heap} (hd : fz.contains d = true) (hf : freezeV h v = some (v', h')) (hk : rrOk G a h' rr ∧ K (upd a d v') h') : putD G fz ⟨some d, g, op, rr⟩ K a v h := by
  rw [put_fz hd hf]
  exact hk
theorem put_some' {d : Nat} {g : Option (Nat × Bool)} {op : I} {rr : List (Option (Nat × Bool) × Nat × I)} {v : V} (hd : fz.contains d = false) (hk : rrOk G a h rr ∧ K (upd a d v) h) : putD G fz ⟨some d, g, op, rr⟩ K a v h := by
  rw [put_some hd]
  exact hk

/-- A slice that lies in a row of its own, all of it. -/
def Own (h : Heap) (o : Nat) (ty sz : Nat) (xs : List V) (v : V) : Prop := v = .slc o 0 xs.length xs.length ∧ h.obj o = some (.arr ty sz xs)

theorem Own.read {o ty sz : Nat} {xs : List V} {v : V} (w : Own h o ty sz xs v) : readL h v = some xs := by
  obtain ⟨rfl, e⟩ := w
  simp [readL, e]
theorem Own.lt {o ty sz : Nat} {xs : List V} {v : V} (w : Own h o ty sz xs v) : o < h.next := Heap.lt_next w.2
theorem Own.fr {S : List Nat} {o ty sz : Nat} {xs : List V} {v : V} (w : Own h o ty sz xs v) (f : Fr S h h') (hS : o ∉ S) : Own h' o ty sz xs v := ⟨w.1, f.at w.2 hS⟩
theorem Own.freeze {o ty sz : Nat} {xs : List V} {v : V} (w : Own h o ty sz xs v) : freezeV h v = some (.lst xs, h.kill o) := by
  obtain ⟨rfl, e⟩ := w
  simp [freezeV, e]

theorem append_own {o ty sz bytes : Nat} {xs ys : List V} {v y : V} (w : Own h o ty sz xs v) (hy : readL h y = some ys) (h1 : (xs.length + ys.length) * bytes ≤ 70368744177664) (h2 : xs.length + ys.length ≤ 70368744177664) (hz : szOk sz ys = true) :
    ∃ o' v' h', appendV h ty sz bytes v y = some (v', h') ∧ Own h' o' ty sz (xs ++ ys) v' ∧ Fr [o] h h' ∧ (o' = o ∨ o' = h.next) := by
  obtain ⟨rfl, e⟩ := w
  by_cases hin : ys = []
  · subst hin
    refine ⟨o, .slc o 0 xs.length xs.length, h.set o (.arr ty sz (xs ++ [])), ?_, ⟨by simp, set_new e⟩, Fr.set h o _, .inl rfl⟩
    simp only [appendV, hy, e]
    rw [if_pos ⟨trivial, trivial, h1, h2, hz, Nat.le_refl _⟩, if_pos ⟨by simp, by simp⟩]
    simp
  · have hl : 0 < ys.length := List.length_pos_iff.2 hin
    refine ⟨h.next, .slc h.next 0 (xs.length + ys.length) (xs.length + ys.length), (h.kill o).alloc (.arr ty sz (xs ++ ys)), ?_, ⟨by simp, alloc_new (h := h.kill o)⟩, (Fr.kill h o).trans (Fr.alloc _ _) (by simp), .inr rfl⟩
    simp only [appendV, hy, e]
    rw [if_pos ⟨trivial, trivial, h1, h2, hz, Nat.le_refl _⟩, if_neg (by omega), if_pos trivial]

theorem append_nil {ty sz bytes : Nat} {ys : List V} {y : V} (hy : readL h y = some ys) (h1 : ys.length * bytes ≤ 70368744177664) (h2 : ys.length ≤ 70368744177664) (hz : szOk sz ys = true) (h0 : ys ≠ []) :
    appendV h ty sz bytes .nil y = some (.slc h.next 0 ys.length ys.length, h.alloc (.arr ty sz ys)) := by
  simp only [appendV, hy]
  rw [if_pos ⟨h1, h2, hz⟩, if_neg h0]

/-- Appending to a slice of one's own, in a walk. -/
theorem go_append {i : Ins} {x y : Opd} {o ty sz bytes : Nat} {xs ys : List V} {v : V} (w : Own h o ty sz xs v) (hx : x.ev G a = v) (hy : readL h (y.ev G a) = some ys) (h1 : (xs.length + ys.length) * bytes ≤ 70368744177664) (h2 : xs.length + ys.length ≤ 70368744177664) (hz : szOk sz ys = true)
    (hk : ∀ o' v' h', Own h' o' ty sz (xs ++ ys) v' → Fr [o] h h' → (o' = o ∨ o' = h.next) → putD G fz i K a v' h') : goO G fz i K a (stepI G a h (.append ty sz bytes x y)) := by
  obtain ⟨o', v', h', e, q1, q2, q3⟩ := append_own (bytes := bytes) w hy h1 h2 hz
  show goO G fz i K a (appendV h ty sz bytes (x.ev G a) (y.ev G a))
  rw [hx, e]
  exact hk o' v' h' q1 q2 q3

/-- Appending to nothing. -/
theorem go_append0 {i : Ins} {x y : Opd} {ty sz bytes : Nat} {ys : List V} (hx : x.ev G a = .nil) (hy : readL h (y.ev G a) = some ys) (h1 : ys.length * bytes ≤ 70368744177664) (h2 : ys.length ≤ 70368744177664) (hz : szOk sz ys = true) (h0 : ys ≠ [])
    (hk : ∀ o' v' h', Own h' o' ty sz ys v' → Fr [] h h' → o' = h.next → putD G fz i K a v' h') : goO G fz i K a (stepI G a h (.append ty sz bytes x y)) := by
  show goO G fz i K a (appendV h ty sz bytes (x.ev G a) (y.ev G a))
  rw [hx, append_nil hy h1 h2 hz h0]
  exact hk _ _ _ ⟨rfl, alloc_new⟩ (Fr.alloc _ _) rfl

/-- make([]T, n): a row of its own. -/
theorem go_mkslice {i : Ins} {l c : Opd} {ty sz bytes n m : Nat} {z : V} (hl : l.ev G a = .int .i64 n) (hc : c.ev G a = .int .i64 m) (hnm : n ≤ m) (hm : m ≤ 9223372036854775807) (hb : m * bytes ≤ 70368744177664) (hz : z.cells.length = sz) (hs : z.sane = true)
    (hk : ∀ v' h', Own h' h.next ty sz (List.replicate n z) v' → Fr [] h h' → putD G fz i K a v' h') : goO G fz i K a (stepI G a h (.mkslice ty sz bytes z l c)) := by
  have nat : ∀ k : Nat, k ≤ 9223372036854775807 → natOf (.int .i64 k) = some k := fun k hk => by
    unfold natOf
    simp only
    rw [if_pos ⟨by omega, by omega⟩]
    rfl
  have : stepI G a h (.mkslice ty sz bytes z l c) = some (.slc h.next 0 n n, h.alloc (.arr ty sz (List.replicate n z))) := by
    simp only [stepI, hl, hc, nat n (by omega), nat m hm]
    rw [if_pos ⟨hnm, hb, hz, hs⟩]
  rw [this]
  exact hk _ _ ⟨by simp, alloc_new⟩ (Fr.alloc _ _)

/-- []T{..}: a row of its own. -/
theorem go_bslice {i : Ins} {ty sz len : Nat} {z : V} {ps : List (Nat × Opd)} {xs : List V} (hz : z.cells.length = sz) (hs : z.sane = true) (hl : len * sz ≤ 16777216) (hx : setParts sz (List.replicate len z) (ps.map fun p => (p.1, p.2.ev G a)) = some xs) (hn : xs.length = len)
    (hk : ∀ v' h', Own h' h.next ty sz xs v' → Fr [] h h' → putD G fz i K a v' h') : goO G fz i K a (stepI G a h (.bslice ty sz z len ps)) := by
  have : stepI G a h (.bslice ty sz z len ps) = some (.slc h.next 0 len len, h.alloc (.arr ty sz xs)) := by
    simp only [stepI]
    rw [if_pos ⟨hz, hs, hl⟩, hx]
    rfl
  rw [this]
  exact hk _ _ ⟨by rw [hn], alloc_new⟩ (Fr.alloc _ _)

theorem goto_put {i : Ins} {v v' : V} {h1 h2 : Heap} (hk : putD G fz i K a v h1) (e1 : v' = v) (e2 : h2 = h1) : putD G fz i K a v' h2 := by
  subst e1 e2
  exact hk

/-! ### bytes -/

def b8 (x : UInt8) : V := .int .u8 x.toNat

theorem szOk_b8 (bs : List UInt8) : szOk 1 (bs.map b8) = true := by
  cases bs <;> rfl

theorem wrap8 (n : Int) : V.int .u8 (IntKind.u8.wrap n) = b8 (UInt8.ofInt n) := by
  unfold b8
  congr 1
  simp [IntKind.wrap, IntKind.bits, IntKind.signed, UInt8.ofInt]
  omega

theorem ofInt_wrap8 (n : Int) : UInt8.ofInt (IntKind.u8.wrap n) = UInt8.ofInt n := by
  apply UInt8.toNat_inj.1
  simp [IntKind.wrap, IntKind.bits, IntKind.signed, UInt8.ofInt]

/-- To read a slice, or a list, elsewhere. -/
theorem read_fr {S : List Nat} {v : V} {xs : List V} (e : readL h v = some xs) (f : Fr S h h') (hS : ∀ o off len room, v = .slc o off len room → o ∉ S) : readL h' v = some xs := by
  cases v with
  | slc o off len room =>
    simp only [readL] at e ⊢
    cases ho : h.obj o with
    | none => rw [ho] at e; cases e
    | some ob => rw [f.at ho (hS _ _ _ _ rfl)]; rw [ho] at e; exact e
  | _ => exact e

/-- A slice's object is there. -/
theorem read_lt {v : V} {xs : List V} (e : readL h v = some xs) {o off len room : Nat} (hv : v = .slc o off len room) : o < h.next := by
  subst hv
  simp only [readL] at e
  cases ho : h.obj o with
  | none => rw [ho] at e; cases e
  | some ob => exact Heap.lt_next ho

/-- What is new is read by none. -/
theorem read_new {S : List Nat} {v : V} {xs : List V} (e : readL h v = some xs) (f : Fr S h h') (hS : ∀ k ∈ S, h.next ≤ k) : readL h' v = some xs :=
  read_fr e f (fun _ _ _ _ hv hm => by have := read_lt e hv; have := hS _ hm; omega)

end Go.Am
