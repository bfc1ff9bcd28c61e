/- Parts of the proof, one after another; what each part shows stands at its head. No conditions. -/
import Derived.Test.YtonbafpfcmlnlaaDoorL6
set_option linter.all false

/- tunnel: Get. -/
namespace Go.Am
open Go.Proofs
variable {G : Nat → V} {h : Heap}

/-- So many numbers, and what is left. -/
def readN : Nat → List UInt8 → Option (List Int × List UInt8)
  | 0, bs => some ([], bs)
  | n + 1, bs => if (lookF bs).2.2 ≠ 0 then none else (readN n (bs.drop (lookF bs).2.1)).map fun p => ((lookF bs).1 :: p.1, p.2)

/-- One more, behind so many. -/
theorem readN_snoc : ∀ (n : Nat) (bs : List UInt8) (xs : List Int) (r : List UInt8), readN n bs = some (xs, r) → readN (n + 1) bs = if (lookF r).2.2 ≠ 0 then none else some (xs ++ [(lookF r).1], r.drop (lookF r).2.1)
  | 0, bs, xs, r, e => by
    simp only [readN, Option.some.injEq, Prod.mk.injEq] at e
    obtain ⟨rfl, rfl⟩ := e
    simp only [readN, Option.map_some, List.nil_append]
  | n + 1, bs, xs, r, e => by
    rw [readN] at e ⊢
    split at e
    · cases e
    · rename_i h0
      rw [if_neg h0]
      simp only [Option.map_eq_some_iff, Prod.mk.injEq] at e
      obtain ⟨⟨ys, r'⟩, e1, e2, e3⟩ := e
      simp only at e2 e3
      subst e2 e3
      rw [readN_snoc n _ ys r' e1]
      split
      · rfl
      · simp
theorem readN_none : ∀ (n m : Nat) (bs : List UInt8), readN n bs = none → readN (n + m) bs = none
  | 0, m, bs, e => by simp [readN] at e
  | n + 1, m, bs, e => by
    rw [show n + 1 + m = (n + m) + 1 from by omega, readN]
    rw [readN] at e
    split at e
    · rename_i h0; rw [if_pos h0]
    · rename_i h0
      rw [if_neg h0]
      simp only [Option.map_eq_none_iff] at e ⊢
      exact readN_none n m _ e
theorem readN_len : ∀ (n : Nat) (bs : List UInt8) (xs : List Int) (r : List UInt8), readN n bs = some (xs, r) → xs.length = n ∧ r.length ≤ bs.length
  | 0, bs, xs, r, e => by
    simp only [readN, Option.some.injEq, Prod.mk.injEq] at e
    obtain ⟨rfl, rfl⟩ := e
    simp
  | n + 1, bs, xs, r, e => by
    rw [readN] at e
    split at e
    · cases e
    · simp only [Option.map_eq_some_iff, Prod.mk.injEq] at e
      obtain ⟨⟨ys, r'⟩, e1, e2, e3⟩ := e
      simp only at e2 e3
      subst e2 e3
      have := readN_len n _ _ _ e1
      simp only [List.length_drop] at this
      simp only [List.length_cons]
      omega

/-- The frame of which numbers are. -/
def fmOf (xs : List Int) (body : List UInt8) : Fm := ⟨xs.getD 0 0, xs.getD 1 0, xs.getD 2 0, xs.getD 3 0, xs.getD 4 0, xs.getD 5 0, body⟩
theorem fmOf_v {xs : List Int} (hl : xs.length = 6) (body : List UInt8) (b : V) : (fmOf xs body).v b = .agg (xs.map (V.int .i64) ++ [b]) := by
  match xs, hl with
  | [a, b, c, d, e, f], _ => rfl

/-- What the bytes behind the mark say. -/
def getP (ps : List UInt8) : Option Fm :=
  match ps with
  | [] => none
  | m :: ps =>
    if m ≠ 85 then none else
    match readN 6 ps with
    | none => none
    | some (xs, r) =>
      match textF 512 r with
      | (some body, _, r') => if r' = [] ∧ checkF (fmOf xs body) = 0 then some (fmOf xs body) else none
      | (none, _, _) => none
/-- The frame of which bytes are, or the error. -/
def getF (bs : List UInt8) : Option Fm × Int :=
  match openF bs with
  | (none, e) => (none, e)
  | (some ps, _) =>
    match getP ps with
    | some f => (some f, 0)
    | none => (none, 120)

def zeroF : List V := [.int .i64 0, .int .i64 0, .int .i64 0, .int .i64 0, .int .i64 0, .int .i64 0, .nil]

theorem open_err {bs : List UInt8} (e : (openF bs).1 = none) : (openF bs).2 ≠ 0 := by
  unfold openF at e ⊢
  split
  · simp
  · split
    · rename_i h1 h2
      rw [if_neg h1, if_pos h2] at e
      cases e
    · simp
theorem open_len {bs ps : List UInt8} (e : (openF bs).1 = some ps) : ps.length ≤ bs.length := by
  unfold openF at e
  split at e
  · cases e
  · split at e
    · simp only [Option.some.injEq] at e
      subst e
      simp
    · cases e

/-- A whole structure is written over. -/
theorem go_storeA {fz : List Nat} {K : Tm → Heap → Prop} {a : Tm} {i : Ins} {x y : Opd} {o ty sz n : Nat} {cs ds : List V} (e : h.obj o = some (.arr ty sz [.agg cs])) (hx : x.ev G a = .ptr o 0 0) (hy : y.ev G a = .agg ds) (hn : ds.length = n) (hl : cs.length = n) (h1 : ∀ d ∈ ds, d.one = true)
    (hk : ∀ h', Fr [o] h h' → h'.next = h.next → h'.obj o = some (.arr ty sz [.agg ds]) → putD G fz i K a .undef h') : goO G fz i K a (stepI G a h (.store n x y)) := by
  have hs : (V.agg ds).sane = true := by simp only [V.sane, List.all_eq_true]; exact h1
  have sp : ∀ (vs cs pre : List V), cs.length = vs.length → splice (pre ++ cs) pre.length vs = pre ++ vs := by
    intro vs
    induction vs with
    | nil => intro cs pre hl; simp at hl; subst hl; rfl
    | cons v vs ih =>
      intro cs pre hl
      cases cs with
      | nil => simp at hl
      | cons c cs =>
        simp only [splice]
        have := ih cs (pre ++ [v]) (by simpa using hl)
        simp only [List.length_append, List.length_cons, List.length_nil, List.append_assoc, List.cons_append, List.nil_append] at this
        rw [show (pre ++ c :: cs).set pre.length v = pre ++ v :: cs from by simp]
        exact this
  have h0 := sp ds cs [] (by omega)
  simp only [List.nil_append, List.length_nil] at h0
  have : stepI G a h (.store n x y) = some (.undef, h.set o (.arr ty sz [.agg ds])) := by
    simp only [stepI, hx, hy, storeV, e, List.getElem?_cons_zero]
    rw [if_pos ⟨by simp [V.cells, hn], by simp [V.cells]; omega, hs⟩]
    simp [setCells, V.cells, h0]
  rw [this]
  exact hk _ (Fr.set h o _) rfl (set_new e)

/-- An array of pointers to a structure's first fields. -/
def Ptrs (h : Heap) (v : V) (f : Nat) : Prop := ∃ o, Own h o 174 1 ((List.range 6).map fun k => V.ptr f 0 k) v

theorem mapSet (xs : List Int) (m : Nat) (x : Int) (tl : List V) : (xs.map (V.int .i64) ++ List.replicate (m + 1) (V.int .i64 0) ++ tl).set xs.length (.int .i64 x) = (xs ++ [x]).map (V.int .i64) ++ List.replicate m (V.int .i64 0) ++ tl := by
  rw [List.append_assoc, List.set_append_right _ _ (by simp)]
  simp [List.replicate_succ]

theorem getF_none {bs : List UInt8} {ps : List UInt8} (e : (openF bs).1 = some ps) (n : getP ps = none) : (getF bs).1 = none ∧ (getF bs).2 = 120 := by
  unfold getF
  cases q : openF bs with
  | mk x y =>
    rw [q] at e
    simp only at e
    subst e
    simp only [n]
    exact ⟨trivial, trivial⟩
theorem getF_some {bs : List UInt8} {ps : List UInt8} {f : Fm} (e : (openF bs).1 = some ps) (n : getP ps = some f) : (getF bs).1 = some f := by
  unfold getF
  cases q : openF bs with
  | mk x y =>
    rw [q] at e
    simp only at e
    subst e
    simp only [n]

theorem getP_more {m : UInt8} {ps : List UInt8} (c : m = 85) (e : readN 6 ps = none) : getP (m :: ps) = none := by
  have c' : ¬ m ≠ 85 := fun h => h c
  simp only [getP]
  rw [if_neg c']
  simp only [e]
theorem getP_text {m : UInt8} {ps r : List UInt8} {xs : List Int} (c : m = 85) (e : readN 6 ps = some (xs, r)) (t : (textF 512 r).1 = none) : getP (m :: ps) = none := by
  have c' : ¬ m ≠ 85 := fun h => h c
  simp only [getP]
  rw [if_neg c']
  simp only [e]
  cases q : textF 512 r with
  | mk x y => rw [q] at t; simp only at t; subst t; rfl
theorem getP_end {m : UInt8} {ps r x : List UInt8} {xs : List Int} (c : m = 85) (e : readN 6 ps = some (xs, r)) (t : (textF 512 r).1 = some x) : getP (m :: ps) = if (textF 512 r).2.2 = [] ∧ checkF (fmOf xs x) = 0 then some (fmOf xs x) else none := by
  have c' : ¬ m ≠ 85 := fun h => h c
  simp only [getP]
  rw [if_neg c']
  simp only [e]
  cases q : textF 512 r with
  | mk x y => rw [q] at t; simp only at t; subst t; rfl

theorem b8une (x : UInt8) : ((x.toNat : Int) != 85) = !(x == 85) := by
  rw [Bool.eq_iff_iff]
  simp only [bne_iff_ne, ne_eq, Bool.not_eq_true', beq_eq_false_iff_ne]
  rw [not_congr]
  constructor
  · intro e; apply UInt8.toNat_inj.1; show x.toNat = 85; omega
  · intro e; subst e; rfl

set_option maxHeartbeats 2000000 in
theorem get_spec (hG : Nibs G) (b : V) (bs : List UInt8) (hb : Rs h 1 b (bs.map b8)) (hbl : bs.length ≤ 1073741824) (R : V → Heap → Prop)
    (hbad : (getF bs).1 = none → ∀ h', Fr [] h h' → R (.tup [.agg zeroF, .int .i64 (getF bs).2]) h')
    (hgood : ∀ f, (getF bs).1 = some f → ∀ h', Fr [] h h' → R (.tup [f.v (lb f.body), .int .i64 0]) h') : Calls0 Tryd.prog G 93 [b] h R := by
  refine fn_walk mixed fn93uis [63] rfl ?_
  simp only [go_sem, true_and, and_true, ↓reduceIte, Nat.reduceEqDiff, Nat.reduceAdd, Bool.not_true, Bool.not_false, List.getElem?_cons_zero, List.getElem?_cons_succ, decide_true, decide_false, Bool.false_eq_true, fn93]
  refine go_box (v := .agg zeroF) rfl rfl rfl ?_
  intro h1 f1 e1
  simp only [go_sem, true_and, and_true, ↓reduceIte, Nat.reduceEqDiff, Nat.reduceAdd, Bool.not_true, Bool.not_false, List.getElem?_cons_zero, List.getElem?_cons_succ, decide_true, decide_false, Bool.false_eq_true]
  have nz : h.next < h1.next := Heap.lt_next e1
  have hz : h.next ≤ h.next := Nat.le_refl _
  revert f1 e1 nz hz
  generalize hzz : h.next = z
  intro f1 e1 nz hz
  -- how it ends with an error
  have bad : ∀ (h2 : Heap) (er : Int) (a : Tm) (K : Ex → Tm → Heap → Prop), Fr [] h h2 → h2.obj z = some (.arr 134 7 [.agg zeroF]) → (getF bs).1 = none → (getF bs).2 = er →
      ∀ h', Fr [z] h2 h' → h'.obj z = some (.arr 134 7 [.agg zeroF]) → ∀ a : Tm, a 2 = .ptr z 0 0 → a 3 = .int .i64 er → postF R [.cell 2 true 7, .tmp 3] .ret a h' := by
    intro h2 er _ _ f2 e2 g1 g2 h' f' e' a a2 a3
    have := hbad g1 h' (f2.trans f' (by simp; omega))
    rw [g2] at this
    show match retV a h' [.cell 2 true 7, .tmp 3] with | some v => R v h' | none => False
    have l : loadV h' true 7 (a 2) = some (.agg zeroF) := by rw [a2]; exact ldA e' rfl
    simp only [retV, List.mapM_cons, List.mapM_nil, resOf, l, a3, Option.pure_def, Option.bind_eq_bind, Option.bind_some, Option.map_some]
    exact this
  refine open_spec hG b bs (hb.new f1 (by simp)) hbl _ ?_ ?_
  · intro g1 h2 f2
    have g2 := open_err g1
    have hne : ((openF bs).2 != 0) = true := by simpa using g2
    have ge : getF bs = (none, (openF bs).2) := by
      unfold getF
      cases q : openF bs with
      | mk x y => rw [q] at g1; simp only at g1; subst g1; rfl
    have e2 := f2.at e1 (by simp)
    simp only [go_sem, true_and, and_true, ↓reduceIte, Nat.reduceEqDiff, Nat.reduceAdd, Bool.not_true, Bool.not_false, List.getElem?_cons_zero, List.getElem?_cons_succ, decide_true, decide_false, Bool.false_eq_true, List.getElem?_cons_zero, List.getElem?_cons_succ, hne]
    refine go_build (cs := zeroF) rfl ?_
    simp only [go_sem, true_and, and_true, ↓reduceIte, Nat.reduceEqDiff, Nat.reduceAdd, Bool.not_true, Bool.not_false, List.getElem?_cons_zero, List.getElem?_cons_succ, decide_true, decide_false, Bool.false_eq_true]
    refine go_storeA e2 rfl rfl rfl rfl (by decide) ?_
    intro h3 f3 n3 e3
    simp only [go_sem, true_and, and_true, ↓reduceIte, Nat.reduceEqDiff, Nat.reduceAdd, Bool.not_true, Bool.not_false, List.getElem?_cons_zero, List.getElem?_cons_succ, decide_true, decide_false, Bool.false_eq_true]
    exact bad h2 (openF bs).2 (fun _ => .undef) (fun _ _ _ => True) (f1.trans f2 (by simp)) e2 (by rw [ge]) (by rw [ge]) h3 f3 e3 _ rfl rfl
  · intro ps g1 v h2 w2
    have f2 := w2.1
    have e2 := f2.at e1 (by simp)
    have f02 := f1.trans f2 (by simp)
    have hpl := open_len g1
    have rp := w2.rs (b8ucells ps)
    have hpn := rp.len
    rw [List.length_map] at hpn
    have ne0 : ((0 : Int) != 0) = false := rfl
    simp only [go_sem, true_and, and_true, ↓reduceIte, Nat.reduceEqDiff, Nat.reduceAdd, Bool.not_true, Bool.not_false, List.getElem?_cons_zero, List.getElem?_cons_succ, decide_true, decide_false, Bool.false_eq_true, List.getElem?_cons_zero, List.getElem?_cons_succ, ne0, hpn]
    -- not the bytes of a frame
    have notP : getP ps = none → ∀ h', Fr [] h h' → h'.obj z = some (.arr 134 7 [.agg zeroF]) → ∀ h'', Fr [z] h' h'' → h''.obj z = some (.arr 134 7 [.agg zeroF]) → ∀ a : Tm, a 2 = .ptr z 0 0 → a 3 = .int .i64 120 → postF R [.cell 2 true 7, .tmp 3] .ret a h'' := by
      intro n h' f' e' h'' f'' e'' a a2 a3
      obtain ⟨q1, q2⟩ := getF_none g1 n
      exact bad h' 120 (fun _ => .undef) (fun _ _ _ => True) f' e' q1 q2 h'' f'' e'' a a2 a3
    cases ps with
    | nil =>
      have c0 : ((([] : List UInt8).length : Int) == 0) = true := rfl
      simp only [go_sem, true_and, and_true, ↓reduceIte, Nat.reduceEqDiff, Nat.reduceAdd, Bool.not_true, Bool.not_false, List.getElem?_cons_zero, List.getElem?_cons_succ, decide_true, decide_false, Bool.false_eq_true, c0, fn93u1]
      refine go_build (cs := zeroF) rfl ?_
      simp only [go_sem, true_and, and_true, ↓reduceIte, Nat.reduceEqDiff, Nat.reduceAdd, Bool.not_true, Bool.not_false, List.getElem?_cons_zero, List.getElem?_cons_succ, decide_true, decide_false, Bool.false_eq_true]
      refine go_storeA e2 rfl rfl rfl rfl (by decide) ?_
      intro h3 f3 n3 e3
      simp only [go_sem, true_and, and_true, ↓reduceIte, Nat.reduceEqDiff, Nat.reduceAdd, Bool.not_true, Bool.not_false, List.getElem?_cons_zero, List.getElem?_cons_succ, decide_true, decide_false, Bool.false_eq_true]
      exact notP rfl h2 f02 e2 h3 f3 e3 _ rfl rfl
    | cons m ps =>
      have c0 : (((m :: ps).length : Int) == 0) = false := by simp only [List.length_cons, beq_eq_false_iff_ne, ne_eq]; omega
      simp only [go_sem, true_and, and_true, ↓reduceIte, Nat.reduceEqDiff, Nat.reduceAdd, Bool.not_true, Bool.not_false, List.getElem?_cons_zero, List.getElem?_cons_succ, decide_true, decide_false, Bool.false_eq_true, c0]
      refine go_iaddr (k := .i64) (n := 0) (e := b8 m) rp ?_ ?_ ?_ ?_
      · rfl
      · rfl
      · rfl
      intro p0 q0
      have m0 := q0.load1 (e := b8 m) rfl
      simp only [b8] at m0
      simp only [go_sem, true_and, and_true, ↓reduceIte, Nat.reduceEqDiff, Nat.reduceAdd, Bool.not_true, Bool.not_false, List.getElem?_cons_zero, List.getElem?_cons_succ, decide_true, decide_false, Bool.false_eq_true, m0, b8une]
      by_cases c1 : m = 85
      · have c1' : (m == 85) = true := by simpa using c1
        simp only [go_sem, true_and, and_true, ↓reduceIte, Nat.reduceEqDiff, Nat.reduceAdd, Bool.not_true, Bool.not_false, List.getElem?_cons_zero, List.getElem?_cons_succ, decide_true, decide_false, Bool.false_eq_true, c1', Bool.not_true, fn93u1, fn93u9]
        refine go_box (v := .agg zeroF) rfl rfl rfl ?_
        intro h3 f3 e3
        have f03 := f02.trans f3 (by simp)
        have lz3 := Heap.lt_next e3
        simp only [go_sem, true_and, and_true, ↓reduceIte, Nat.reduceEqDiff, Nat.reduceAdd, Bool.not_true, Bool.not_false, List.getElem?_cons_zero, List.getElem?_cons_succ, decide_true, decide_false, Bool.false_eq_true]
        refine go_slice (l := 1) (n := (m :: ps).length) (rp.new f3 (by simp)) ?_ ?_ ?_ ?_ ?_ ?_
        · rfl
        · rfl
        · simp
        · simp
        · simp
        intro v4 r4 o4 c4
        have t4 : (((m :: ps).map b8).take (m :: ps).length).drop 1 = ps.map b8 := by
          have : (m :: ps).length = ((m :: ps).map b8).length := by simp
          rw [this, List.take_length]
          rfl
        rw [t4] at r4
        simp only [go_sem, true_and, and_true, ↓reduceIte, Nat.reduceEqDiff, Nat.reduceAdd, Bool.not_true, Bool.not_false, List.getElem?_cons_zero, List.getElem?_cons_succ, decide_true, decide_false, Bool.false_eq_true]
        refine read_spec v4 ps r4 (by simp only [List.length_cons] at hpl; omega) _ ?_
        intro r h4 d4 n4 f4
        have e4 := f4.at e3 (by simp)
        have f04 := f03.trans f4 (by simp)
        have ez4 := (f3.trans f4 (by simp)).at e2 (by simp)
        have zq : z < h2.next := Nat.lt_of_lt_of_le nz f2.next
        have qr : h2.next < r := Nat.lt_of_lt_of_le lz3 n4
        have hq0 : h.next ≤ h2.next := f02.next
        clear e3
        revert e4 lz3 zq qr hq0
        generalize h2.next = q
        intro lz3 e4 zq qr hq0
        simp only [go_sem, true_and, and_true, ↓reduceIte, Nat.reduceEqDiff, Nat.reduceAdd, Bool.not_true, Bool.not_false, List.getElem?_cons_zero, List.getElem?_cons_succ, decide_true, decide_false, Bool.false_eq_true]
        refine go_bslice (xs := (List.range 6).map fun k => V.ptr q 0 k) ?_ ?_ ?_ ?_ ?_ ?_
        · rfl
        · rfl
        · omega
        · rfl
        · rfl
        intro v5 h5 w5 f5
        have e5 := f5.at e4 (by simp)
        have ez5 := f5.at ez4 (by simp)
        have f05 := f04.trans f5 (by simp)
        have hr4 := d4.lt
        have d5 := d4.fr f5 (by simp)
        have lv5 : lenV v5 = some 6 := by rw [w5.1]; rfl
        have w5r := w5.lt
        have o5r : r < h4.next := hr4
        simp only [go_sem, true_and, and_true, ↓reduceIte, Nat.reduceEqDiff, Nat.reduceAdd, Bool.not_true, Bool.not_false, List.getElem?_cons_zero, List.getElem?_cons_succ, decide_true, decide_false, Bool.false_eq_true, lv5]
        generalize h4.next = po at *
        refine w_loop (fun a h' n => n ≤ 6 ∧ ∃ xs rest, readN (6 - n) ps = some (xs, rest) ∧ a 2 = .ptr z 0 0 ∧ a 6 = .ptr q 0 0 ∧ a 7 = .ptr r 0 0 ∧ a 42 = v5 ∧ a 43 = .int .i64 6 ∧ a 44 = .int .i64 ((6 - n : Nat) : Int) ∧ Fr [] h h' ∧ h'.obj z = some (.arr 134 7 [.agg zeroF]) ∧
          h'.obj q = some (.arr 134 7 [.agg (xs.map (V.int .i64) ++ List.replicate n (V.int .i64 0) ++ [.nil])]) ∧ Own h' po 174 1 ((List.range 6).map fun k => V.ptr q 0 k) v5 ∧ Rdr h' r rest) 6 ?_ ?_
        · exact ⟨Nat.le_refl _, [], ps, rfl, rfl, rfl, rfl, rfl, rfl, rfl, f05, ez5, e5, w5, d5⟩
        · rintro a h6 n ⟨g, xs, rest, gr, a2, a6, a7, a42, a43, a44, f06, ez6, e6, w6, d6⟩
          obtain ⟨lx, lr⟩ := readN_len _ _ _ _ gr
          have hrl : rest.length ≤ 1073741824 := by simp only [List.length_cons] at hpl; omega
          cases n with
          | zero =>
            have ci : ¬ ((6 - 0 : Nat) : Int) < 6 := by omega
            simp only [go_sem, true_and, and_true, ↓reduceIte, Nat.reduceEqDiff, Nat.reduceAdd, Bool.not_true, Bool.not_false, List.getElem?_cons_zero, List.getElem?_cons_succ, decide_true, decide_false, Bool.false_eq_true, fn93u5, fn93u8, a43, a44, ci, decide_false, a7]
            refine rtext_spec r 512 rest d6 hrl (by omega) _ ?_ ?_
            · intro gt
              have ge := text_err gt
              have cne : ((textF 512 rest).2.1 != 0) = true := by simpa using ge
              simp only [go_sem, true_and, and_true, ↓reduceIte, Nat.reduceEqDiff, Nat.reduceAdd, Bool.not_true, Bool.not_false, List.getElem?_cons_zero, List.getElem?_cons_succ, decide_true, decide_false, Bool.false_eq_true, List.getElem?_cons_zero, List.getElem?_cons_succ, a6]
              refine go_store0 (v := .lst []) (sub := 6) e6 ?_ ?_ rfl (by simp; omega) ?_
              · simp only [go_sem, true_and, and_true, ↓reduceIte, Nat.reduceEqDiff, Nat.reduceAdd, Bool.not_true, Bool.not_false, List.getElem?_cons_zero, List.getElem?_cons_succ, decide_true, decide_false, Bool.false_eq_true]
              · simp only [go_sem, true_and, and_true, ↓reduceIte, Nat.reduceEqDiff, Nat.reduceAdd, Bool.not_true, Bool.not_false, List.getElem?_cons_zero, List.getElem?_cons_succ, decide_true, decide_false, Bool.false_eq_true]
              intro h7 f7 n7 e7
              simp only [go_sem, true_and, and_true, ↓reduceIte, Nat.reduceEqDiff, Nat.reduceAdd, Bool.not_true, Bool.not_false, List.getElem?_cons_zero, List.getElem?_cons_succ, decide_true, decide_false, Bool.false_eq_true, cne, fn93u6]
              have ez7 := f7.at ez6 (by simp; omega)
              have f07 := f06.trans f7 (fun k hk => by simp at hk; subst hk; right; omega)
              refine go_build (cs := zeroF) rfl ?_
              simp only [go_sem, true_and, and_true, ↓reduceIte, Nat.reduceEqDiff, Nat.reduceAdd, Bool.not_true, Bool.not_false, List.getElem?_cons_zero, List.getElem?_cons_succ, decide_true, decide_false, Bool.false_eq_true]
              refine go_storeA (ds := zeroF) ez7 ?_ ?_ rfl rfl (by decide) ?_
              · simp only [go_sem, true_and, and_true, ↓reduceIte, Nat.reduceEqDiff, Nat.reduceAdd, Bool.not_true, Bool.not_false, List.getElem?_cons_zero, List.getElem?_cons_succ, decide_true, decide_false, Bool.false_eq_true, a2]
              · rfl
              intro h8 f8 n8 e8
              simp only [go_sem, true_and, and_true, ↓reduceIte, Nat.reduceEqDiff, Nat.reduceAdd, Bool.not_true, Bool.not_false, List.getElem?_cons_zero, List.getElem?_cons_succ, decide_true, decide_false, Bool.false_eq_true]
              refine notP ?_ h7 f07 ez7 h8 f8 e8 _ ?_ rfl
              · have q2 : readN 6 ps = some (xs, rest) := gr
                exact getP_text c1 q2 gt
              · simp only [go_sem, true_and, and_true, ↓reduceIte, Nat.reduceEqDiff, Nat.reduceAdd, Bool.not_true, Bool.not_false, List.getElem?_cons_zero, List.getElem?_cons_succ, decide_true, decide_false, Bool.false_eq_true, a2]
            · intro x h7 gt d7 f7
              have q2 : readN 6 ps = some (xs, rest) := gr
              have l6 : xs.length = 6 := lx
              have ez7 := f7.at ez6 (by simp; omega)
              have e7 := f7.at e6 (by simp; omega)
              have f07 := f06.trans f7 (fun k hk => by simp at hk; subst hk; right; omega)
              simp only [go_sem, true_and, and_true, ↓reduceIte, Nat.reduceEqDiff, Nat.reduceAdd, Bool.not_true, Bool.not_false, List.getElem?_cons_zero, List.getElem?_cons_succ, decide_true, decide_false, Bool.false_eq_true, List.getElem?_cons_zero, List.getElem?_cons_succ, a6]
              refine go_store0 (v := lb x) (sub := 6) e7 ?_ ?_ rfl (by simp; omega) ?_
              · simp only [go_sem, true_and, and_true, ↓reduceIte, Nat.reduceEqDiff, Nat.reduceAdd, Bool.not_true, Bool.not_false, List.getElem?_cons_zero, List.getElem?_cons_succ, decide_true, decide_false, Bool.false_eq_true]
              · simp only [go_sem, true_and, and_true, ↓reduceIte, Nat.reduceEqDiff, Nat.reduceAdd, Bool.not_true, Bool.not_false, List.getElem?_cons_zero, List.getElem?_cons_succ, decide_true, decide_false, Bool.false_eq_true]
              intro h8 f8 n8 e8
              have ez8 := f8.at ez7 (by simp; omega)
              have d8 := d7.fr f8 (by simp; omega)
              have f08 := f07.trans f8 (fun k hk => by simp at hk; subst hk; right; omega)
              have e8' : h8.obj q = some (.arr 134 7 [(fmOf xs x).v (lb x)]) := by
                rw [e8, fmOf_v l6]
                congr 3
                rw [List.set_append_right _ _ (by simp; omega)]
                simp [l6]
              have l8 : loadV h8 true 7 (.ptr q 0 0) = some ((fmOf xs x).v (lb x)) := by rw [fmOf_v l6] at e8' ⊢; exact ldA e8' (by simp; omega)
              simp only [go_sem, true_and, and_true, ↓reduceIte, Nat.reduceEqDiff, Nat.reduceAdd, Bool.not_true, Bool.not_false, List.getElem?_cons_zero, List.getElem?_cons_succ, decide_true, decide_false, Bool.false_eq_true, ne0, a7]
              refine end_spec r _ d8 _ ?_
              by_cases c3 : (textF 512 rest).2.2 = []
              · have c3' : (if (textF 512 rest).2.2.length > 0 then (3 : Int) else 0) = 0 := by rw [c3]; rfl
                simp only [go_sem, true_and, and_true, ↓reduceIte, Nat.reduceEqDiff, Nat.reduceAdd, Bool.not_true, Bool.not_false, List.getElem?_cons_zero, List.getElem?_cons_succ, decide_true, decide_false, Bool.false_eq_true, c3', ne0, a6, l8]
                refine check_spec (fmOf xs x) (lb x) (by rw [lb_len]; rfl) rfl _ ?_
                intro h9 f9
                have ez9 := f9.at ez8 (by simp)
                have e9 := f9.at e8' (by simp)
                have f09 := f08.trans f9 (by simp)
                simp only [go_sem, true_and, and_true, ↓reduceIte, Nat.reduceEqDiff, Nat.reduceAdd, Bool.not_true, Bool.not_false, List.getElem?_cons_zero, List.getElem?_cons_succ, decide_true, decide_false, Bool.false_eq_true]
                by_cases c4 : checkF (fmOf xs x) = 0
                · have c4' : (checkF (fmOf xs x) != 0) = false := by simpa using c4
                  have l9 : loadV h9 true 7 (.ptr q 0 0) = some ((fmOf xs x).v (lb x)) := by rw [fmOf_v l6] at e9 ⊢; exact ldA e9 (by simp; omega)
                  simp only [go_sem, true_and, and_true, ↓reduceIte, Nat.reduceEqDiff, Nat.reduceAdd, Bool.not_true, Bool.not_false, List.getElem?_cons_zero, List.getElem?_cons_succ, decide_true, decide_false, Bool.false_eq_true, c4', fn93u6, fn93u7, a6, l9]
                  refine go_storeA (ds := xs.map (V.int .i64) ++ [lb x]) ez9 ?_ ?_ (by simp; omega) rfl ?_ ?_
                  · simp only [go_sem, true_and, and_true, ↓reduceIte, Nat.reduceEqDiff, Nat.reduceAdd, Bool.not_true, Bool.not_false, List.getElem?_cons_zero, List.getElem?_cons_succ, decide_true, decide_false, Bool.false_eq_true, a2]
                  · simp only [go_sem, true_and, and_true, ↓reduceIte, Nat.reduceEqDiff, Nat.reduceAdd, Bool.not_true, Bool.not_false, List.getElem?_cons_zero, List.getElem?_cons_succ, decide_true, decide_false, Bool.false_eq_true]
                    exact fmOf_v l6 x _
                  · intro d hd
                    simp only [List.mem_append, List.mem_map, List.mem_singleton] at hd
                    rcases hd with ⟨n, _, rfl⟩ | rfl <;> rfl
                  intro h10 f10 n10 e10
                  simp only [go_sem, true_and, and_true, ↓reduceIte, Nat.reduceEqDiff, Nat.reduceAdd, Bool.not_true, Bool.not_false, List.getElem?_cons_zero, List.getElem?_cons_succ, decide_true, decide_false, Bool.false_eq_true]
                  have gp : getP (m :: ps) = some (fmOf xs x) := by
                    rw [getP_end c1 q2 gt, if_pos ⟨c3, c4⟩]
                  have f010 := f09.trans f10 (fun k hk => by simp at hk; subst hk; right; omega)
                  have := hgood _ (getF_some g1 gp) h10 f010
                  show match retV _ h10 [.cell 2 true 7, .tmp 3] with | some v => R v h10 | none => False
                  have l10 : loadV h10 true 7 (a 2) = some (.agg (xs.map (V.int .i64) ++ [lb x])) := by rw [a2]; exact ldA e10 (by simp; omega)
                  simp only [retV, List.mapM_cons, List.mapM_nil, resOf, upd, Nat.reduceEqDiff, if_true, if_false, l10, Option.pure_def, Option.bind_eq_bind, Option.bind_some, Option.map_some]
                  rw [fmOf_v l6] at this
                  exact this
                · have c4' : (checkF (fmOf xs x) != 0) = true := by simpa using c4
                  simp only [go_sem, true_and, and_true, ↓reduceIte, Nat.reduceEqDiff, Nat.reduceAdd, Bool.not_true, Bool.not_false, List.getElem?_cons_zero, List.getElem?_cons_succ, decide_true, decide_false, Bool.false_eq_true, c4', fn93u6]
                  refine go_build (cs := zeroF) rfl ?_
                  simp only [go_sem, true_and, and_true, ↓reduceIte, Nat.reduceEqDiff, Nat.reduceAdd, Bool.not_true, Bool.not_false, List.getElem?_cons_zero, List.getElem?_cons_succ, decide_true, decide_false, Bool.false_eq_true]
                  refine go_storeA (ds := zeroF) ez9 ?_ ?_ rfl rfl (by decide) ?_
                  · simp only [go_sem, true_and, and_true, ↓reduceIte, Nat.reduceEqDiff, Nat.reduceAdd, Bool.not_true, Bool.not_false, List.getElem?_cons_zero, List.getElem?_cons_succ, decide_true, decide_false, Bool.false_eq_true, a2]
                  · rfl
                  intro h10 f10 n10 e10
                  simp only [go_sem, true_and, and_true, ↓reduceIte, Nat.reduceEqDiff, Nat.reduceAdd, Bool.not_true, Bool.not_false, List.getElem?_cons_zero, List.getElem?_cons_succ, decide_true, decide_false, Bool.false_eq_true]
                  refine notP ?_ h9 f09 ez9 h10 f10 e10 _ ?_ rfl
                  · rw [getP_end c1 q2 gt, if_neg (fun hh => c4 hh.2)]
                  · simp only [go_sem, true_and, and_true, ↓reduceIte, Nat.reduceEqDiff, Nat.reduceAdd, Bool.not_true, Bool.not_false, List.getElem?_cons_zero, List.getElem?_cons_succ, decide_true, decide_false, Bool.false_eq_true, a2]
              · have c3' : (if (textF 512 rest).2.2.length > 0 then (3 : Int) else 0) = 3 := by rw [if_pos (List.length_pos_iff.2 c3)]
                have ne3 : ((3 : Int) != 0) = true := rfl
                simp only [go_sem, true_and, and_true, ↓reduceIte, Nat.reduceEqDiff, Nat.reduceAdd, Bool.not_true, Bool.not_false, List.getElem?_cons_zero, List.getElem?_cons_succ, decide_true, decide_false, Bool.false_eq_true, c3', ne3, fn93u6]
                refine go_build (cs := zeroF) rfl ?_
                simp only [go_sem, true_and, and_true, ↓reduceIte, Nat.reduceEqDiff, Nat.reduceAdd, Bool.not_true, Bool.not_false, List.getElem?_cons_zero, List.getElem?_cons_succ, decide_true, decide_false, Bool.false_eq_true]
                refine go_storeA (ds := zeroF) ez8 ?_ ?_ rfl rfl (by decide) ?_
                · simp only [go_sem, true_and, and_true, ↓reduceIte, Nat.reduceEqDiff, Nat.reduceAdd, Bool.not_true, Bool.not_false, List.getElem?_cons_zero, List.getElem?_cons_succ, decide_true, decide_false, Bool.false_eq_true, a2]
                · rfl
                intro h10 f10 n10 e10
                simp only [go_sem, true_and, and_true, ↓reduceIte, Nat.reduceEqDiff, Nat.reduceAdd, Bool.not_true, Bool.not_false, List.getElem?_cons_zero, List.getElem?_cons_succ, decide_true, decide_false, Bool.false_eq_true]
                refine notP ?_ h8 f08 ez8 h10 f10 e10 _ ?_ rfl
                · rw [getP_end c1 q2 gt, if_neg (fun hh => c3 hh.1)]
                · simp only [go_sem, true_and, and_true, ↓reduceIte, Nat.reduceEqDiff, Nat.reduceAdd, Bool.not_true, Bool.not_false, List.getElem?_cons_zero, List.getElem?_cons_succ, decide_true, decide_false, Bool.false_eq_true, a2]
          | succ m =>
            have ci : ((6 - (m + 1) : Nat) : Int) < 6 := by omega
            simp only [go_sem, true_and, and_true, ↓reduceIte, Nat.reduceEqDiff, Nat.reduceAdd, Bool.not_true, Bool.not_false, List.getElem?_cons_zero, List.getElem?_cons_succ, decide_true, decide_false, Bool.false_eq_true, fn93u5, fn93u4, a43, a44, ci, decide_true]
            refine go_iaddr (k := .i64) (n := 6 - (m + 1)) (e := .ptr q 0 (6 - (m + 1))) (w6.rs (by simp [V.cells])) ?_ ?_ ?_ ?_
            · simp only [go_sem, true_and, and_true, ↓reduceIte, Nat.reduceEqDiff, Nat.reduceAdd, Bool.not_true, Bool.not_false, List.getElem?_cons_zero, List.getElem?_cons_succ, decide_true, decide_false, Bool.false_eq_true, a42]
            · simp only [go_sem, true_and, and_true, ↓reduceIte, Nat.reduceEqDiff, Nat.reduceAdd, Bool.not_true, Bool.not_false, List.getElem?_cons_zero, List.getElem?_cons_succ, decide_true, decide_false, Bool.false_eq_true, a44]
            · rw [List.getElem?_map, List.getElem?_range (by omega)]; rfl
            intro p1 q1
            have m1 := q1.load1 (e := .ptr q 0 (6 - (m + 1))) rfl
            simp only [go_sem, true_and, and_true, ↓reduceIte, Nat.reduceEqDiff, Nat.reduceAdd, Bool.not_true, Bool.not_false, List.getElem?_cons_zero, List.getElem?_cons_succ, decide_true, decide_false, Bool.false_eq_true, m1, a7]
            refine rnum_spec r rest d6 hrl _ ?_
            intro h7 d7 f7
            have f07 := f06.trans f7 (fun k hk => by simp at hk; subst hk; right; omega)
            have ez7 := f7.at ez6 (by simp; omega)
            have e7 := f7.at e6 (by simp; omega)
            have w7 := w6.fr f7 (by simp; omega)
            simp only [go_sem, true_and, and_true, ↓reduceIte, Nat.reduceEqDiff, Nat.reduceAdd, Bool.not_true, Bool.not_false, List.getElem?_cons_zero, List.getElem?_cons_succ, decide_true, decide_false, Bool.false_eq_true, List.getElem?_cons_zero, List.getElem?_cons_succ]
            by_cases c2 : (lookF rest).2.2 = 0
            · have c2' : ((lookF rest).2.2 != 0) = false := by simpa using c2
              simp only [go_sem, true_and, and_true, ↓reduceIte, Nat.reduceEqDiff, Nat.reduceAdd, Bool.not_true, Bool.not_false, List.getElem?_cons_zero, List.getElem?_cons_succ, decide_true, decide_false, Bool.false_eq_true, c2', fn93u2, fn93u3, a2, a6, a7, a42, a43, a44]
              refine go_store0 (v := .int .i64 (lookF rest).1) (sub := 6 - (m + 1)) e7 ?_ ?_ rfl (by simp; omega) ?_
              · simp only [go_sem, true_and, and_true, ↓reduceIte, Nat.reduceEqDiff, Nat.reduceAdd, Bool.not_true, Bool.not_false, List.getElem?_cons_zero, List.getElem?_cons_succ, decide_true, decide_false, Bool.false_eq_true]
              · simp only [go_sem, true_and, and_true, ↓reduceIte, Nat.reduceEqDiff, Nat.reduceAdd, Bool.not_true, Bool.not_false, List.getElem?_cons_zero, List.getElem?_cons_succ, decide_true, decide_false, Bool.false_eq_true]
              intro h8 f8 n8 e8
              have wi : IntKind.i64.wrap (((6 - (m + 1) : Nat) : Int) + 1) = ((6 - m : Nat) : Int) := by rw [wrap64 (by omega) (by omega)]; omega
              simp only [go_sem, true_and, and_true, ↓reduceIte, Nat.reduceEqDiff, Nat.reduceAdd, Bool.not_true, Bool.not_false, List.getElem?_cons_zero, List.getElem?_cons_succ, decide_true, decide_false, Bool.false_eq_true, a44, wi]
              have q1 := readN_snoc _ _ _ _ gr
              rw [if_neg (by simpa using c2), show 6 - (m + 1) + 1 = 6 - m from by omega] at q1
              rw [← lx, mapSet] at e8
              have f08 := f07.trans f8 (fun k hk => by simp at hk; subst hk; right; omega)
              refine ⟨m, by omega, by omega, _, _, q1, a2, a6, a7, a42, a43, rfl, f08, f8.at ez7 (by simp; omega), e8, w7.fr f8 (by simp; omega), ?_⟩
              exact d7.fr f8 (by simp; omega)
            · have c2' : ((lookF rest).2.2 != 0) = true := by simpa using c2
              simp only [go_sem, true_and, and_true, ↓reduceIte, Nat.reduceEqDiff, Nat.reduceAdd, Bool.not_true, Bool.not_false, List.getElem?_cons_zero, List.getElem?_cons_succ, decide_true, decide_false, Bool.false_eq_true, c2']
              refine go_build (cs := zeroF) rfl ?_
              simp only [go_sem, true_and, and_true, ↓reduceIte, Nat.reduceEqDiff, Nat.reduceAdd, Bool.not_true, Bool.not_false, List.getElem?_cons_zero, List.getElem?_cons_succ, decide_true, decide_false, Bool.false_eq_true]
              refine go_storeA (ds := zeroF) ez7 ?_ ?_ rfl rfl (by decide) ?_
              · simp only [go_sem, true_and, and_true, ↓reduceIte, Nat.reduceEqDiff, Nat.reduceAdd, Bool.not_true, Bool.not_false, List.getElem?_cons_zero, List.getElem?_cons_succ, decide_true, decide_false, Bool.false_eq_true, a2]
              · rfl
              intro h8 f8 n8 e8
              simp only [go_sem, true_and, and_true, ↓reduceIte, Nat.reduceEqDiff, Nat.reduceAdd, Bool.not_true, Bool.not_false, List.getElem?_cons_zero, List.getElem?_cons_succ, decide_true, decide_false, Bool.false_eq_true]
              refine notP ?_ h7 f07 ez7 h8 f8 e8 _ ?_ rfl
              · have q1 := readN_snoc _ _ _ _ gr
                rw [if_pos c2] at q1
                have q2 := readN_none _ m _ q1
                rw [show 6 - (m + 1) + 1 + m = 6 from by omega] at q2
                exact getP_more c1 q2
              · simp only [go_sem, true_and, and_true, ↓reduceIte, Nat.reduceEqDiff, Nat.reduceAdd, Bool.not_true, Bool.not_false, List.getElem?_cons_zero, List.getElem?_cons_succ, decide_true, decide_false, Bool.false_eq_true, a2]
      · have c1' : (m == 85) = false := by simpa using c1
        simp only [go_sem, true_and, and_true, ↓reduceIte, Nat.reduceEqDiff, Nat.reduceAdd, Bool.not_true, Bool.not_false, List.getElem?_cons_zero, List.getElem?_cons_succ, decide_true, decide_false, Bool.false_eq_true, c1', Bool.not_false, fn93u1]
        refine go_build (cs := zeroF) rfl ?_
        simp only [go_sem, true_and, and_true, ↓reduceIte, Nat.reduceEqDiff, Nat.reduceAdd, Bool.not_true, Bool.not_false, List.getElem?_cons_zero, List.getElem?_cons_succ, decide_true, decide_false, Bool.false_eq_true]
        refine go_storeA e2 rfl rfl rfl rfl (by decide) ?_
        intro h3 f3 n3 e3
        simp only [go_sem, true_and, and_true, ↓reduceIte, Nat.reduceEqDiff, Nat.reduceAdd, Bool.not_true, Bool.not_false, List.getElem?_cons_zero, List.getElem?_cons_succ, decide_true, decide_false, Bool.false_eq_true]
        exact notP (by simp [getP, c1]) h2 f02 e2 h3 f3 e3 _ rfl rfl

end Go.Am

/- tunnel: what a tunnel is in memory; what is asked of it; what it says. -/
namespace Go.Am
open Go.Proofs
variable {G : Nat → V} {h h' h'' : Heap}

/-- A tunnel. -/
structure Tn where
  up : Bool
  silence : Int
  next : Int
  way : List (Int × List UInt8 × Int)
  queue : List (List UInt8)
  expect : Int
  early : List (Int × List UInt8)
  me : Int
  you : Int
  epoch : Int
  ticks : Int
  out : List (List UInt8)

def sentV (s : Int × List UInt8 × Int) : V := .agg [.int .i64 s.1, lb s.2.1, .int .i64 s.2.2]

/-- A row that nobody writes any more, or none. -/
def Fz (v : V) (xs : List V) : Prop := v = .lst xs ∨ (v = .nil ∧ xs = [])
theorem Fz.one {v : V} {xs : List V} (w : Fz v xs) : v.one = true := by rcases w with rfl | ⟨rfl, _⟩ <;> rfl
theorem Fz.len {v : V} {xs : List V} (w : Fz v xs) : lenV v = some xs.length := by rcases w with rfl | ⟨rfl, rfl⟩ <;> rfl
theorem Fz.read {v : V} {xs : List V} (w : Fz v xs) : readL h v = some xs := by rcases w with rfl | ⟨rfl, rfl⟩ <;> rfl
theorem Fz.rs {sz : Nat} {v : V} {xs : List V} (w : Fz v xs) (hc : ∀ x ∈ xs, x.cells.length = sz) : Rs h sz v xs := by
  rcases w with rfl | ⟨rfl, rfl⟩
  · exact Rs.lst hc
  · exact Rs.nil

/-- A map from numbers to bytes. -/
def Mp (h : Heap) (S : List Nat) (v : V) (es : List (Int × List UInt8)) (up : Bool) : Prop :=
  (up = false ∧ S = [] ∧ v = .nilm ∧ es = []) ∨ ∃ m xs cl, up = true ∧ S = [m] ∧ v = .map m ∧ h.obj m = some (.map xs cl) ∧ xs.map (fun e => (e.key, e.val)) = es.map fun p => (.int .i64 p.1, lb p.2)
theorem Mp.one {S : List Nat} {v : V} {es : List (Int × List UInt8)} {up : Bool} (w : Mp h S v es up) : v.one = true := by rcases w with ⟨_, _, rfl, _⟩ | ⟨m, xs, cl, _, _, rfl, _⟩ <;> rfl
theorem Mp.lt {S : List Nat} {v : V} {es : List (Int × List UInt8)} {up : Bool} (w : Mp h S v es up) : ∀ k ∈ S, k < h.next := by
  rcases w with ⟨_, rfl, _, _⟩ | ⟨m, xs, cl, _, rfl, _, e, _⟩
  · simp
  · simpa using Heap.lt_next e
theorem Mp.fr {S T : List Nat} {v : V} {es : List (Int × List UInt8)} {up : Bool} (w : Mp h S v es up) (f : Fr T h h') (hS : ∀ k ∈ S, k ∉ T) : Mp h' S v es up := by
  rcases w with ⟨h1, h2, h3, h4⟩ | ⟨m, xs, cl, h1, rfl, h3, e, h5⟩
  · exact .inl ⟨h1, h2, h3, h4⟩
  · exact .inr ⟨m, xs, cl, h1, rfl, h3, f.at e (hS m (by simp)), h5⟩

def tunC (T : Tn) (wv qv ev ov : V) : List V :=
  [.bool T.up, .int .i64 T.silence, .int .i64 T.next, wv, qv, .int .i64 T.expect, ev, .int .i64 T.me, .int .i64 T.you, .int .i64 T.epoch, .int .i64 T.ticks, ov]

/-- A tunnel at t, its parts. -/
structure TunP (h : Heap) (t : Nat) (T : Tn) (wv qv ev ov : V) (So Sm : List Nat) : Prop where
  obj : h.obj t = some (.arr 109 12 [.agg (tunC T wv qv ev ov)])
  way : Fz wv (T.way.map sentV)
  queue : Fz qv (T.queue.map lb)
  out : Row h So 27 1 (T.out.map lb) ov
  early : Mp h Sm ev T.early T.up
  nd : (t :: (So ++ Sm)).Nodup

/-- A tunnel at t; S: the objects that are its. -/
def TunR (h : Heap) (t : Nat) (T : Tn) (S : List Nat) : Prop := ∃ wv qv ev ov So Sm, TunP h t T wv qv ev ov So Sm ∧ S = t :: (So ++ Sm)

theorem TunP.lt {t : Nat} {T : Tn} {wv qv ev ov : V} {So Sm : List Nat} (p : TunP h t T wv qv ev ov So Sm) : ∀ k ∈ t :: (So ++ Sm), k < h.next := by
  intro k hk
  simp only [List.mem_cons, List.mem_append] at hk
  rcases hk with rfl | hk | hk
  · exact Heap.lt_next p.obj
  · exact p.out.lt k hk
  · exact p.early.lt k hk
theorem TunR.lt {t : Nat} {T : Tn} {S : List Nat} (p : TunR h t T S) : ∀ k ∈ S, k < h.next := by
  obtain ⟨_, _, _, _, _, _, p, rfl⟩ := p
  exact p.lt
theorem TunR.mem {t : Nat} {T : Tn} {S : List Nat} (p : TunR h t T S) : t ∈ S := by
  obtain ⟨_, _, _, _, _, _, p, rfl⟩ := p
  simp
theorem TunP.fr {t : Nat} {T : Tn} {wv qv ev ov : V} {So Sm Z : List Nat} (p : TunP h t T wv qv ev ov So Sm) (f : Fr Z h h') (hZ : ∀ k ∈ t :: (So ++ Sm), k ∉ Z) : TunP h' t T wv qv ev ov So Sm :=
  ⟨f.at p.obj (hZ t (by simp)), p.way, p.queue, p.out.fr f (fun k hk => hZ k (by simp [hk])), p.early.fr f (fun k hk => hZ k (by simp [hk])), p.nd⟩
theorem TunP.new {t : Nat} {T : Tn} {wv qv ev ov : V} {So Sm Z : List Nat} (p : TunP h t T wv qv ev ov So Sm) (f : Fr Z h h') (hZ : ∀ k ∈ Z, h.next ≤ k) : TunP h' t T wv qv ev ov So Sm :=
  p.fr f (fun k hk hm => by have := p.lt k hk; have := hZ k hm; omega)
theorem TunR.fr {t : Nat} {T : Tn} {S Z : List Nat} (p : TunR h t T S) (f : Fr Z h h') (hZ : ∀ k ∈ S, k ∉ Z) : TunR h' t T S := by
  obtain ⟨_, _, _, _, _, _, p, rfl⟩ := p
  exact ⟨_, _, _, _, _, _, p.fr f hZ, rfl⟩
theorem TunR.new {t : Nat} {T : Tn} {S Z : List Nat} (p : TunR h t T S) (f : Fr Z h h') (hZ : ∀ k ∈ Z, h.next ≤ k) : TunR h' t T S :=
  p.fr f (fun k hk hm => by have := p.lt k hk; have := hZ k hm; omega)

/-- From S to S': what is not of them stays. -/
structure Up (h h' : Heap) (S S' : List Nat) : Prop where
  fr : Fr S h h'
  sub : ∀ k ∈ S', k ∈ S ∨ h.next ≤ k
theorem Up.refl (h : Heap) (S : List Nat) : Up h h S S := ⟨Fr.refl _ _, fun _ hk => .inl hk⟩
theorem Up.trans {S S' S'' : List Nat} (x : Up h h' S S') (y : Up h' h'' S' S'') : Up h h'' S S'' :=
  ⟨x.fr.trans y.fr x.sub, fun k hk => by
    rcases y.sub k hk with q | q
    · exact x.sub k q
    · exact .inr (Nat.le_trans x.fr.next q)⟩

/-! ### what is asked of it -/

theorem made_spec {t : Nat} {T : Tn} {wv qv ev ov : V} {So Sm : List Nat} (p : TunP h t T wv qv ev ov So Sm) (R : V → Heap → Prop) (hR : R (.bool (decide (T.me > 0))) h) : Calls0 Tryd.prog G 59 [.ptr t 0 0] h R := by
  refine fn_walk mixed fn59uis [] rfl ?_
  have l7 : loadV h false 1 (.ptr t 0 7) = some (.int .i64 T.me) := ld0 p.obj rfl
  simp only [go_sem, true_and, and_true, ↓reduceIte, Nat.reduceEqDiff, Nat.reduceAdd, Bool.not_true, Bool.not_false, List.getElem?_cons_zero, List.getElem?_cons_succ, decide_true, decide_false, Bool.false_eq_true, fn59, l7]
  exact hR

theorem up_spec {t : Nat} {T : Tn} {wv qv ev ov : V} {So Sm : List Nat} (p : TunP h t T wv qv ev ov So Sm) (hm : T.me > 0) (R : V → Heap → Prop) (hR : R (.bool T.up) h) : Calls0 Tryd.prog G 17 [.ptr t 0 0] h R := by
  refine fn_walk mixed fn17uis [] rfl ?_
  have l0 : loadV h false 1 (.ptr t 0 0) = some (.bool T.up) := ld0 p.obj rfl
  simp only [go_sem, true_and, and_true, ↓reduceIte, Nat.reduceEqDiff, Nat.reduceAdd, Bool.not_true, Bool.not_false, List.getElem?_cons_zero, List.getElem?_cons_succ, decide_true, decide_false, Bool.false_eq_true, fn17]
  refine made_spec p _ ?_
  simp only [go_sem, true_and, and_true, ↓reduceIte, Nat.reduceEqDiff, Nat.reduceAdd, Bool.not_true, Bool.not_false, List.getElem?_cons_zero, List.getElem?_cons_succ, decide_true, decide_false, Bool.false_eq_true, hm, decide_true, l0]
  exact hR

theorem me_spec {t : Nat} {T : Tn} {wv qv ev ov : V} {So Sm : List Nat} (p : TunP h t T wv qv ev ov So Sm) (hm : T.me > 0) (R : V → Heap → Prop) (hR : R (.int .i64 T.me) h) : Calls0 Tryd.prog G 20 [.ptr t 0 0] h R := by
  refine fn_walk mixed fn20uis [] rfl ?_
  have l7 : loadV h false 1 (.ptr t 0 7) = some (.int .i64 T.me) := ld0 p.obj rfl
  simp only [go_sem, true_and, and_true, ↓reduceIte, Nat.reduceEqDiff, Nat.reduceAdd, Bool.not_true, Bool.not_false, List.getElem?_cons_zero, List.getElem?_cons_succ, decide_true, decide_false, Bool.false_eq_true, fn20]
  refine made_spec p _ ?_
  simp only [go_sem, true_and, and_true, ↓reduceIte, Nat.reduceEqDiff, Nat.reduceAdd, Bool.not_true, Bool.not_false, List.getElem?_cons_zero, List.getElem?_cons_succ, decide_true, decide_false, Bool.false_eq_true, hm, decide_true, Bool.not_true, fn20u1, l7]
  exact hR

theorem you_spec {t : Nat} {T : Tn} {wv qv ev ov : V} {So Sm : List Nat} (p : TunP h t T wv qv ev ov So Sm) (hm : T.me > 0) (R : V → Heap → Prop) (hR : R (.int .i64 T.you) h) : Calls0 Tryd.prog G 19 [.ptr t 0 0] h R := by
  refine fn_walk mixed fn19uis [] rfl ?_
  have l8 : loadV h false 1 (.ptr t 0 8) = some (.int .i64 T.you) := ld0 p.obj rfl
  simp only [go_sem, true_and, and_true, ↓reduceIte, Nat.reduceEqDiff, Nat.reduceAdd, Bool.not_true, Bool.not_false, List.getElem?_cons_zero, List.getElem?_cons_succ, decide_true, decide_false, Bool.false_eq_true, fn19]
  refine made_spec p _ ?_
  simp only [go_sem, true_and, and_true, ↓reduceIte, Nat.reduceEqDiff, Nat.reduceAdd, Bool.not_true, Bool.not_false, List.getElem?_cons_zero, List.getElem?_cons_succ, decide_true, decide_false, Bool.false_eq_true, hm, decide_true, Bool.not_true, fn19u1, l8]
  exact hR

theorem epoch_spec {t : Nat} {T : Tn} {wv qv ev ov : V} {So Sm : List Nat} (p : TunP h t T wv qv ev ov So Sm) (hm : T.me > 0) (R : V → Heap → Prop) (hR : R (.int .i64 T.epoch) h) : Calls0 Tryd.prog G 22 [.ptr t 0 0] h R := by
  refine fn_walk mixed fn22uis [] rfl ?_
  have l9 : loadV h false 1 (.ptr t 0 9) = some (.int .i64 T.epoch) := ld0 p.obj rfl
  simp only [go_sem, true_and, and_true, ↓reduceIte, Nat.reduceEqDiff, Nat.reduceAdd, Bool.not_true, Bool.not_false, List.getElem?_cons_zero, List.getElem?_cons_succ, decide_true, decide_false, Bool.false_eq_true, fn22]
  refine made_spec p _ ?_
  simp only [go_sem, true_and, and_true, ↓reduceIte, Nat.reduceEqDiff, Nat.reduceAdd, Bool.not_true, Bool.not_false, List.getElem?_cons_zero, List.getElem?_cons_succ, decide_true, decide_false, Bool.false_eq_true, hm, decide_true, Bool.not_true, fn22u1, l9]
  exact hR

def Tn.waiting (T : Tn) : Nat := T.queue.length + T.way.length

theorem waiting_spec {t : Nat} {T : Tn} {wv qv ev ov : V} {So Sm : List Nat} (p : TunP h t T wv qv ev ov So Sm) (hm : T.me > 0) (hb : T.waiting ≤ 1000000) (R : V → Heap → Prop) (hR : R (.int .i64 T.waiting) h) : Calls0 Tryd.prog G 16 [.ptr t 0 0] h R := by
  refine fn_walk mixed fn16uis [] rfl ?_
  have l4 : loadV h false 1 (.ptr t 0 4) = some qv := ld0 p.obj rfl
  have l3 : loadV h false 1 (.ptr t 0 3) = some wv := ld0 p.obj rfl
  have n3 := p.way.len
  have n4 := p.queue.len
  rw [List.length_map] at n3 n4
  unfold Tn.waiting at hb hR
  have w : IntKind.i64.wrap ((T.queue.length : Int) + (T.way.length : Int)) = ((T.queue.length + T.way.length : Nat) : Int) := by rw [wrap64 (by omega) (by omega)]; omega
  simp only [go_sem, true_and, and_true, ↓reduceIte, Nat.reduceEqDiff, Nat.reduceAdd, Bool.not_true, Bool.not_false, List.getElem?_cons_zero, List.getElem?_cons_succ, decide_true, decide_false, Bool.false_eq_true, fn16]
  refine made_spec p _ ?_
  simp only [go_sem, true_and, and_true, ↓reduceIte, Nat.reduceEqDiff, Nat.reduceAdd, Bool.not_true, Bool.not_false, List.getElem?_cons_zero, List.getElem?_cons_succ, decide_true, decide_false, Bool.false_eq_true, hm, decide_true, Bool.not_true, fn16u1, l4, l3, n3, n4, w]
  exact hR

def Tn.room (T : Tn) : Int := if T.up then 64 - T.waiting else 0

theorem room_spec {t : Nat} {T : Tn} {wv qv ev ov : V} {So Sm : List Nat} (p : TunP h t T wv qv ev ov So Sm) (hm : T.me > 0) (hb : T.waiting ≤ 1000000) (R : V → Heap → Prop) (hR : R (.int .i64 T.room) h) : Calls0 Tryd.prog G 18 [.ptr t 0 0] h R := by
  refine fn_walk mixed fn18uis [] rfl ?_
  have l4 : loadV h false 1 (.ptr t 0 4) = some qv := ld0 p.obj rfl
  have l3 : loadV h false 1 (.ptr t 0 3) = some wv := ld0 p.obj rfl
  have n3 := p.way.len
  have n4 := p.queue.len
  rw [List.length_map] at n3 n4
  unfold Tn.room Tn.waiting at *
  have w1 : IntKind.i64.wrap (64 - (T.queue.length : Int)) = 64 - (T.queue.length : Int) := wrap64 (by omega) (by omega)
  have w2 : IntKind.i64.wrap (64 - (T.queue.length : Int) - (T.way.length : Int)) = 64 - ((T.queue.length + T.way.length : Nat) : Int) := by rw [wrap64 (by omega) (by omega)]; omega
  simp only [go_sem, true_and, and_true, ↓reduceIte, Nat.reduceEqDiff, Nat.reduceAdd, Bool.not_true, Bool.not_false, List.getElem?_cons_zero, List.getElem?_cons_succ, decide_true, decide_false, Bool.false_eq_true, fn18]
  refine up_spec p hm _ ?_
  cases hu : T.up with
  | true =>
    rw [hu] at hR
    simp only [go_sem, true_and, and_true, ↓reduceIte, Nat.reduceEqDiff, Nat.reduceAdd, Bool.not_true, Bool.not_false, List.getElem?_cons_zero, List.getElem?_cons_succ, decide_true, decide_false, Bool.false_eq_true, Bool.not_true, fn18u1, l4, l3, n3, n4, w1, w2]
    exact hR
  | false =>
    rw [hu] at hR
    simp only [go_sem, true_and, and_true, ↓reduceIte, Nat.reduceEqDiff, Nat.reduceAdd, Bool.not_true, Bool.not_false, List.getElem?_cons_zero, List.getElem?_cons_succ, decide_true, decide_false, Bool.false_eq_true, Bool.not_false]
    exact hR

/-! ### what it says -/

/-- A frame's bytes; none, if it may not be. -/
def outB (f : Fm) : List UInt8 := if checkF f = 0 then putF f else []

theorem nodup3 {t : Nat} {So Sm So' : List Nat} {n : Nat} (nd : (t :: (So ++ Sm)).Nodup) (hlt : ∀ k ∈ t :: (So ++ Sm), k < n) (hs : ∀ k ∈ So', k ∈ So ∨ n ≤ k) (h1 : So'.Nodup) : (t :: (So' ++ Sm)).Nodup := by
  simp only [List.nodup_cons, List.mem_append, List.nodup_append, not_or, List.mem_cons] at *
  obtain ⟨⟨a1, a2⟩, a3, a4, a5⟩ := nd
  refine ⟨⟨fun hk => ?_, a2⟩, h1, a4, fun k hk j hj => ?_⟩
  · rcases hs t hk with q | q
    · exact a1 q
    · have := hlt t (.inl rfl); omega
  · rcases hs k hk with q | q
    · exact a5 k q j hj
    · have := hlt j (.inr (.inr hj)); omega
theorem Row.nodup {S : List Nat} {ty sz : Nat} {xs : List V} {v : V} (w : Row h S ty sz xs v) : S.Nodup := by
  rcases w with ⟨rfl, _, _⟩ | ⟨o, rfl, _⟩ <;> simp

theorem say_spec (hG : Nibs G) {t : Nat} {T : Tn} {S : List Nat} (pT : TunR h t T S) (hb : T.out.length ≤ 1000000) (f : Fm) (fb : V) (hf : Rs h 1 fb (f.body.map b8)) (f1 : fb.one = true) (R : V → Heap → Prop)
    (hR : ∀ h' S', TunR h' t { T with out := T.out ++ [outB { f with src := T.me }] } S' → Up h h' S S' → R (.tup []) h') : Calls0 Tryd.prog G 77 [.ptr t 0 0, f.v fb] h R := by
  obtain ⟨wv, qv, ev, ov, So, Sm, p, rfl⟩ := pT
  refine fn_walk mixed fn77uis [14] rfl ?_
  simp only [go_sem, true_and, and_true, ↓reduceIte, Nat.reduceEqDiff, Nat.reduceAdd, Bool.not_true, Bool.not_false, List.getElem?_cons_zero, List.getElem?_cons_succ, decide_true, decide_false, Bool.false_eq_true, fn77]
  refine go_box (v := f.v fb) rfl rfl (fm_sane f1) ?_
  intro h1 fr1 e1
  have p1 := p.new fr1 (by simp)
  have l7 : loadV h1 false 1 (.ptr t 0 7) = some (.int .i64 T.me) := ld0 p1.obj rfl
  have tlt : t < h.next := p.lt t (by simp)
  simp only [go_sem, true_and, and_true, ↓reduceIte, Nat.reduceEqDiff, Nat.reduceAdd, Bool.not_true, Bool.not_false, List.getElem?_cons_zero, List.getElem?_cons_succ, decide_true, decide_false, Bool.false_eq_true, l7]
  refine go_store0 (v := .int .i64 T.me) (sub := 1) e1 ?_ ?_ rfl (by simp [Fm.v]) ?_
  · simp only [go_sem, true_and, and_true, ↓reduceIte, Nat.reduceEqDiff, Nat.reduceAdd, Bool.not_true, Bool.not_false, List.getElem?_cons_zero, List.getElem?_cons_succ, decide_true, decide_false, Bool.false_eq_true]
  · simp only [go_sem, true_and, and_true, ↓reduceIte, Nat.reduceEqDiff, Nat.reduceAdd, Bool.not_true, Bool.not_false, List.getElem?_cons_zero, List.getElem?_cons_succ, decide_true, decide_false, Bool.false_eq_true]
  intro h2 fr2 n2 e2
  have p2 := p1.fr fr2 (fun k hk hm => by have := p.lt k hk; simp at hm; omega)
  have l2 : loadV h2 true 7 (.ptr h.next 0 0) = some (({ f with src := T.me } : Fm).v fb) := ldA e2 rfl
  have fr02 : Fr [] h h2 := fr1.trans fr2 (fun k hk => .inr (by simp at hk; omega))
  simp only [go_sem, true_and, and_true, ↓reduceIte, Nat.reduceEqDiff, Nat.reduceAdd, Bool.not_true, Bool.not_false, List.getElem?_cons_zero, List.getElem?_cons_succ, decide_true, decide_false, Bool.false_eq_true, l2]
  refine put_spec hG { f with src := T.me } fb (hf.new fr02 (by simp)) f1 _ ?_ ?_
  all_goals
    have tail : ∀ (h4 : Heap) (a : Tm), Fr [] h2 h4 → a 16 = .ptr t 0 0 → a 20 = ov → a 21 = lb (outB { f with src := T.me }) → goO G [14] ⟨some 22, none, .bslice 27 1 .nil 1 [(0, (.t 21))], []⟩ (wpIs (Calls0 Tryd.prog G) G [14] [
      ⟨some 23, none, .append 27 1 24 (.t 20) (.t 22), []⟩,
      ⟨some 24, none, .nilck (.t 16), []⟩,
      ⟨some 25, none, .faddr (.t 24) 11, []⟩,
      ⟨none, none, .store 1 (.t 25) (.t 23), []⟩] (postF R [] .normal)) a (stepI G a h4 (.bslice 27 1 .nil 1 [(0, (.t 21))])) := by
      intro h4 a fr4 a16 a20 a21
      have p4 := p2.new fr4 (by simp)
      refine go_bslice (xs := [lb (outB { f with src := T.me })]) rfl rfl (by omega) ?_ rfl ?_
      · simp only [List.map_cons, List.map_nil, e_t, a21]
        rfl
      intro v5 h5 w5 fr5
      have p5 := p4.new fr5 (by simp)
      simp only [go_sem, true_and, and_true, ↓reduceIte, Nat.reduceEqDiff, Nat.reduceAdd, Bool.not_true, Bool.not_false, List.getElem?_cons_zero, List.getElem?_cons_succ, decide_true, decide_false, Bool.false_eq_true, a16, a20]
      refine go_appendR (xs := T.out.map lb) (ys := [lb (outB { f with src := T.me })]) p5.out ?_ ?_ ?_ ?_ rfl ?_
      · simp only [go_sem, true_and, and_true, ↓reduceIte, Nat.reduceEqDiff, Nat.reduceAdd, Bool.not_true, Bool.not_false, List.getElem?_cons_zero, List.getElem?_cons_succ, decide_true, decide_false, Bool.false_eq_true, a20]
      · simp only [go_sem, true_and, and_true, ↓reduceIte, Nat.reduceEqDiff, Nat.reduceAdd, Bool.not_true, Bool.not_false, List.getElem?_cons_zero, List.getElem?_cons_succ, decide_true, decide_false, Bool.false_eq_true]
        exact w5.read
      · simp; omega
      · simp; omega
      intro So' v6 h6 w6 fr6 s6
      have hd : ∀ k ∈ t :: Sm, k ∉ So := fun k hk hm => by
        have nd := p.nd
        simp only [List.nodup_cons, List.mem_append, List.nodup_append, not_or] at nd
        simp only [List.mem_cons] at hk
        rcases hk with rfl | hk
        · exact nd.1.1 hm
        · exact nd.2.2.2 k hm k hk rfl
      have e6 := fr6.at p5.obj (hd t (by simp))
      have m6 := p5.early.fr fr6 (fun k hk => hd k (by simp [hk]))
      simp only [go_sem, true_and, and_true, ↓reduceIte, Nat.reduceEqDiff, Nat.reduceAdd, Bool.not_true, Bool.not_false, List.getElem?_cons_zero, List.getElem?_cons_succ, decide_true, decide_false, Bool.false_eq_true, a16]
      refine go_store0 (v := v6) (sub := 11) e6 ?_ ?_ w6.one (by simp [tunC]) ?_
      · simp only [go_sem, true_and, and_true, ↓reduceIte, Nat.reduceEqDiff, Nat.reduceAdd, Bool.not_true, Bool.not_false, List.getElem?_cons_zero, List.getElem?_cons_succ, decide_true, decide_false, Bool.false_eq_true]
      · simp only [go_sem, true_and, and_true, ↓reduceIte, Nat.reduceEqDiff, Nat.reduceAdd, Bool.not_true, Bool.not_false, List.getElem?_cons_zero, List.getElem?_cons_succ, decide_true, decide_false, Bool.false_eq_true]
      intro h7 fr7 n7 e7
      have fr05 : Fr [] h h5 := (fr02.trans fr4 (by simp)).trans fr5 (by simp)
      have s6' : ∀ k ∈ So', k ∈ So ∨ h.next ≤ k := fun k hk => by
        rcases s6 k hk with q | q
        · exact .inl q
        · exact .inr (Nat.le_trans fr05.next q)
      have nd' := nodup3 p.nd p.lt s6' w6.nodup
      have tS' : t ∉ So' ∧ t ∉ Sm := by
        simp only [List.nodup_cons, List.mem_append, not_or] at nd'
        exact nd'.1
      simp only [go_sem, true_and, and_true, ↓reduceIte, Nat.reduceEqDiff, Nat.reduceAdd, Bool.not_true, Bool.not_false, List.getElem?_cons_zero, List.getElem?_cons_succ, decide_true, decide_false, Bool.false_eq_true]
      refine hR h7 (t :: (So' ++ Sm)) ⟨wv, qv, ev, v6, So', Sm, ⟨e7, p.way, p.queue, ?_, ?_, nd'⟩, rfl⟩ ⟨?_, ?_⟩
      · have := w6.fr fr7 (fun k hk hm => tS'.1 (by simp at hm; exact hm ▸ hk))
        simpa using this
      · exact m6.fr fr7 (fun k hk hm => tS'.2 (by simp at hm; exact hm ▸ hk))
      · exact ((fr05.mono (T := t :: (So ++ Sm)) (by simp)).trans fr6 (fun k hk => .inl (by simp [hk]))).trans fr7 (fun k hk => .inl (by simp at hk; simp [hk]))
      · intro k hk
        simp only [List.mem_cons, List.mem_append] at hk ⊢
        rcases hk with rfl | hk | hk
        · exact .inl (.inl rfl)
        · rcases s6' k hk with q | q
          · exact .inl (.inr (.inl q))
          · exact .inr q
        · exact .inl (.inr (.inr hk))
  · intro g h3 fr3
    have p3 := p2.new fr3 (by simp)
    have l11 : loadV h3 false 1 (.ptr t 0 11) = some ov := ld0 p3.obj rfl
    simp only [go_sem, true_and, and_true, ↓reduceIte, Nat.reduceEqDiff, Nat.reduceAdd, Bool.not_true, Bool.not_false, List.getElem?_cons_zero, List.getElem?_cons_succ, decide_true, decide_false, Bool.false_eq_true, List.getElem?_cons_zero, List.getElem?_cons_succ, l11]
    refine tail h3 _ fr3 rfl rfl ?_
    simp only [go_sem, true_and, and_true, ↓reduceIte, Nat.reduceEqDiff, Nat.reduceAdd, Bool.not_true, Bool.not_false, List.getElem?_cons_zero, List.getElem?_cons_succ, decide_true, decide_false, Bool.false_eq_true]
    unfold outB
    rw [if_neg g]
    rfl
  · intro g o v h3 w3 hn fr3
    simp only [go_sem, true_and, and_true, ↓reduceIte, Nat.reduceEqDiff, Nat.reduceAdd, Bool.not_true, Bool.not_false, List.getElem?_cons_zero, List.getElem?_cons_succ, decide_true, decide_false, Bool.false_eq_true, List.getElem?_cons_zero, List.getElem?_cons_succ]
    refine frz_fresh (w3.fresh fr3 hn) ?_
    intro h4 fr4
    have p4 := p2.new fr4 (by simp)
    have l11 : loadV h4 false 1 (.ptr t 0 11) = some ov := ld0 p4.obj rfl
    simp only [go_sem, true_and, and_true, ↓reduceIte, Nat.reduceEqDiff, Nat.reduceAdd, Bool.not_true, Bool.not_false, List.getElem?_cons_zero, List.getElem?_cons_succ, decide_true, decide_false, Bool.false_eq_true, List.getElem?_cons_zero, List.getElem?_cons_succ, l11]
    refine tail h4 _ fr4 rfl rfl ?_
    simp only [go_sem, true_and, and_true, ↓reduceIte, Nat.reduceEqDiff, Nat.reduceAdd, Bool.not_true, Bool.not_false, List.getElem?_cons_zero, List.getElem?_cons_succ, decide_true, decide_false, Bool.false_eq_true]
    unfold outB
    rw [if_pos g]
    rfl

end Go.Am

/- tunnel: New, Out, begin, end, Hint. -/
namespace Go.Am
open Go.Proofs
variable {G : Nat → V} {h h' h'' : Heap}

/-- Some cells of a structure are written over. -/
theorem go_storeP {fz : List Nat} {K : Tm → Heap → Prop} {a : Tm} {i : Ins} {x y : Opd} {o ty sz n sub : Nat} {cs ds : List V} (e : h.obj o = some (.arr ty sz [.agg cs])) (hx : x.ev G a = .ptr o 0 sub) (hy : y.ev G a = .agg ds) (hn : ds.length = n) (hl : sub + n ≤ cs.length) (h1 : ∀ d ∈ ds, d.one = true)
    (hk : ∀ h', Fr [o] h h' → h'.next = h.next → h'.obj o = some (.arr ty sz [.agg (splice cs sub ds)]) → putD G fz i K a .undef h') : goO G fz i K a (stepI G a h (.store n x y)) := by
  have hs : (V.agg ds).sane = true := by simp only [V.sane, List.all_eq_true]; exact h1
  have : stepI G a h (.store n x y) = some (.undef, h.set o (.arr ty sz [.agg (splice cs sub ds)])) := by
    simp only [stepI, hx, hy, storeV, e, List.getElem?_cons_zero]
    rw [if_pos ⟨by simp [V.cells, hn], by simpa [V.cells] using hl, hs⟩]
    simp [setCells, V.cells]
  rw [this]
  exact hk _ (Fr.set h o _) rfl (set_new e)

def Tn.say (T : Tn) (f : Fm) : Tn := { T with out := T.out ++ [outB { f with src := T.me }] }
def helloM (you : Int) : Fm := ⟨1, 0, you, 0, 0, 0, []⟩
def dataM (you seq : Int) (body : List UInt8) : Fm := ⟨2, 0, you, seq, 0, 0, body⟩
def ackM (you ack bits : Int) : Fm := ⟨3, 0, you, 0, ack, bits, []⟩

def Tn.fresh (me : Int) : Tn := ⟨false, 0, 0, [], [], 0, [], me, 0, 0, 0, []⟩
def Tn.hint (T : Tn) (you : Int) : Tn := if 1 ≤ you ∧ you ≤ 1099511627776 then T.say (helloM you) else T
def Tn.begin (T : Tn) (you : Int) : Tn := Tn.say { T with up := true, silence := 0, next := 0, way := [], queue := [], expect := 0, early := [], you := you, epoch := T.epoch + 1 } (helloM you)
def Tn.stop (T : Tn) : Tn := { T with up := false, silence := 0, next := 0, way := [], queue := [], expect := 0, early := [], me := min (T.me + 1) 1099511627776, epoch := T.epoch + 1 }

theorem new_spec (me : Int) (R : V → Heap → Prop) (hbad : ¬ (1 ≤ me ∧ me ≤ 1099511627776) → R (.tup [.nilp, .int .i64 1]) h)
    (hgood : 1 ≤ me ∧ me ≤ 1099511627776 → ∀ t h' S', TunR h' t (Tn.fresh me) S' → Fr [] h h' → (∀ k ∈ S', h.next ≤ k) → R (.tup [.ptr t 0 0, .int .i64 0]) h') : Calls0 Tryd.prog G 49 [.int .i64 me] h R := by
  refine fn_walk mixed fn49uis [] rfl ?_
  by_cases c1 : me < 1
  · simp only [go_sem, true_and, and_true, ↓reduceIte, Nat.reduceEqDiff, Nat.reduceAdd, Bool.not_true, Bool.not_false, List.getElem?_cons_zero, List.getElem?_cons_succ, decide_true, decide_false, Bool.false_eq_true, fn49, fn49u1, c1]
    exact hbad (by omega)
  · by_cases c2 : me > 1099511627776
    · simp only [go_sem, true_and, and_true, ↓reduceIte, Nat.reduceEqDiff, Nat.reduceAdd, Bool.not_true, Bool.not_false, List.getElem?_cons_zero, List.getElem?_cons_succ, decide_true, decide_false, Bool.false_eq_true, fn49, fn49u1, c1, c2]
      exact hbad (by omega)
    · simp only [go_sem, true_and, and_true, ↓reduceIte, Nat.reduceEqDiff, Nat.reduceAdd, Bool.not_true, Bool.not_false, List.getElem?_cons_zero, List.getElem?_cons_succ, decide_true, decide_false, Bool.false_eq_true, fn49, fn49u1, fn49u2, c1, c2]
      refine go_build (cs := tunC (Tn.fresh me) .nil .nil .nilm .nil) rfl ?_
      simp only [go_sem, true_and, and_true, ↓reduceIte, Nat.reduceEqDiff, Nat.reduceAdd, Bool.not_true, Bool.not_false, List.getElem?_cons_zero, List.getElem?_cons_succ, decide_true, decide_false, Bool.false_eq_true]
      refine go_box (v := .agg (tunC (Tn.fresh me) .nil .nil .nilm .nil)) rfl rfl rfl ?_
      intro h1 f1 e1
      simp only [go_sem, true_and, and_true, ↓reduceIte, Nat.reduceEqDiff, Nat.reduceAdd, Bool.not_true, Bool.not_false, List.getElem?_cons_zero, List.getElem?_cons_succ, decide_true, decide_false, Bool.false_eq_true]
      exact hgood (by omega) h.next h1 [h.next] ⟨.nil, .nil, .nilm, .nil, [], [], ⟨e1, .inr ⟨rfl, rfl⟩, .inr ⟨rfl, rfl⟩, Row.nil, .inl ⟨rfl, rfl, rfl, rfl⟩, by simp⟩, rfl⟩ f1 (by simp)

theorem out_spec {t : Nat} {T : Tn} {S : List Nat} (pT : TunR h t T S) (hm : T.me > 0) (R : V → Heap → Prop)
    (hR : ∀ v h' So S', Row h' So 27 1 (T.out.map lb) v → TunR h' t { T with out := [] } S' → Fr S h h' → h'.next = h.next → (∀ k ∈ So, k ∈ S) → (∀ k ∈ S', k ∈ S) → (∀ k ∈ So, k ∉ S') → R v h') : Calls0 Tryd.prog G 78 [.ptr t 0 0] h R := by
  obtain ⟨wv, qv, ev, ov, So, Sm, p, rfl⟩ := pT
  refine fn_walk mixed fn78uis [] rfl ?_
  have l11 : loadV h false 1 (.ptr t 0 11) = some ov := ld0 p.obj rfl
  simp only [go_sem, true_and, and_true, ↓reduceIte, Nat.reduceEqDiff, Nat.reduceAdd, Bool.not_true, Bool.not_false, List.getElem?_cons_zero, List.getElem?_cons_succ, decide_true, decide_false, Bool.false_eq_true, fn78]
  refine made_spec p _ ?_
  simp only [go_sem, true_and, and_true, ↓reduceIte, Nat.reduceEqDiff, Nat.reduceAdd, Bool.not_true, Bool.not_false, List.getElem?_cons_zero, List.getElem?_cons_succ, decide_true, decide_false, Bool.false_eq_true, hm, fn78u1, l11]
  refine go_store0 (v := .nil) (sub := 11) p.obj rfl rfl rfl (by simp [tunC]) ?_
  intro h1 f1 n1 e1
  simp only [go_sem, true_and, and_true, ↓reduceIte, Nat.reduceEqDiff, Nat.reduceAdd, Bool.not_true, Bool.not_false, List.getElem?_cons_zero, List.getElem?_cons_succ, decide_true, decide_false, Bool.false_eq_true]
  have nd := p.nd
  simp only [List.nodup_cons, List.mem_append, List.nodup_append, not_or] at nd
  obtain ⟨⟨a1, a2⟩, a3, a4, a5⟩ := nd
  refine hR ov h1 So (t :: ([] ++ Sm)) (p.out.fr f1 (fun k hk hm => by simp at hm; exact a1 (hm ▸ hk))) ⟨wv, qv, ev, .nil, [], Sm, ⟨e1, p.way, p.queue, Row.nil, p.early.fr f1 (fun k hk hm => by simp at hm; exact a2 (hm ▸ hk)), ?_⟩, rfl⟩ (f1.mono (by simp)) n1 ?_ ?_ ?_
  · simp [a2, a4]
  · intro k hk; simp [hk]
  · intro k hk
    simp only [List.nil_append, List.mem_cons] at hk
    rcases hk with rfl | hk <;> simp [*]
  · intro k hk hm
    simp only [List.nil_append, List.mem_cons] at hm
    rcases hm with rfl | hm
    · exact a1 hk
    · exact a5 k hk k hm rfl

theorem hint_spec (hG : Nibs G) {t : Nat} {T : Tn} {S : List Nat} (pT : TunR h t T S) (hm : T.me > 0) (hb : T.out.length ≤ 1000000) (you : Int) (R : V → Heap → Prop)
    (hR : ∀ h' S', TunR h' t (T.hint you) S' → Up h h' S S' → R (.tup []) h') : Calls0 Tryd.prog G 51 [.ptr t 0 0, .int .i64 you] h R := by
  have pT' := pT
  obtain ⟨wv, qv, ev, ov, So, Sm, p, hS⟩ := pT'
  refine fn_walk mixed fn51uis [] rfl ?_
  unfold Tn.hint at hR
  by_cases c1 : you ≥ 1
  · by_cases c2 : you ≤ 1099511627776
    · rw [if_pos ⟨c1, c2⟩] at hR
      simp only [go_sem, true_and, and_true, ↓reduceIte, Nat.reduceEqDiff, Nat.reduceAdd, Bool.not_true, Bool.not_false, List.getElem?_cons_zero, List.getElem?_cons_succ, decide_true, decide_false, Bool.false_eq_true, fn51]
      refine made_spec p _ ?_
      simp only [go_sem, true_and, and_true, ↓reduceIte, Nat.reduceEqDiff, Nat.reduceAdd, Bool.not_true, Bool.not_false, List.getElem?_cons_zero, List.getElem?_cons_succ, decide_true, decide_false, Bool.false_eq_true, hm, c1, c2, fn51u1]
      refine go_build (cs := [.int .i64 1, .int .i64 0, .int .i64 you, .int .i64 0, .int .i64 0, .int .i64 0, .nil]) rfl ?_
      simp only [go_sem, true_and, and_true, ↓reduceIte, Nat.reduceEqDiff, Nat.reduceAdd, Bool.not_true, Bool.not_false, List.getElem?_cons_zero, List.getElem?_cons_succ, decide_true, decide_false, Bool.false_eq_true]
      refine say_spec hG pT hb (helloM you) .nil Rs.nil rfl _ ?_
      intro h' S' q u
      simp only [go_sem, true_and, and_true, ↓reduceIte, Nat.reduceEqDiff, Nat.reduceAdd, Bool.not_true, Bool.not_false, List.getElem?_cons_zero, List.getElem?_cons_succ, decide_true, decide_false, Bool.false_eq_true]
      exact hR h' S' q u
    · rw [if_neg (fun hh => c2 hh.2)] at hR
      simp only [go_sem, true_and, and_true, ↓reduceIte, Nat.reduceEqDiff, Nat.reduceAdd, Bool.not_true, Bool.not_false, List.getElem?_cons_zero, List.getElem?_cons_succ, decide_true, decide_false, Bool.false_eq_true, fn51]
      refine made_spec p _ ?_
      simp only [go_sem, true_and, and_true, ↓reduceIte, Nat.reduceEqDiff, Nat.reduceAdd, Bool.not_true, Bool.not_false, List.getElem?_cons_zero, List.getElem?_cons_succ, decide_true, decide_false, Bool.false_eq_true, hm, c1, c2, fn51u1]
      exact hR h S pT (Up.refl h S)
  · rw [if_neg (fun hh => c1 (by omega))] at hR
    simp only [go_sem, true_and, and_true, ↓reduceIte, Nat.reduceEqDiff, Nat.reduceAdd, Bool.not_true, Bool.not_false, List.getElem?_cons_zero, List.getElem?_cons_succ, decide_true, decide_false, Bool.false_eq_true, fn51]
    refine made_spec p _ ?_
    simp only [go_sem, true_and, and_true, ↓reduceIte, Nat.reduceEqDiff, Nat.reduceAdd, Bool.not_true, Bool.not_false, List.getElem?_cons_zero, List.getElem?_cons_succ, decide_true, decide_false, Bool.false_eq_true, hm, c1, fn51u1]
    exact hR h S pT (Up.refl h S)

theorem stop_spec {t : Nat} {T : Tn} {S : List Nat} (pT : TunR h t T S) (hm : 0 ≤ T.me ∧ T.me ≤ 1099511627776) (he : 0 ≤ T.epoch ∧ T.epoch ≤ 1099511627776) (R : V → Heap → Prop)
    (hR : ∀ h' S', TunR h' t T.stop S' → Up h h' S S' → R (.tup []) h') : Calls0 Tryd.prog G 80 [.ptr t 0 0] h R := by
  obtain ⟨wv, qv, ev, ov, So, Sm, p, rfl⟩ := pT
  refine fn_walk mixed fn80uis [] rfl ?_
  have w1 : IntKind.i64.wrap (T.me + 1) = T.me + 1 := wrap64 (by omega) (by omega)
  have w2 : IntKind.i64.wrap (T.epoch + 1) = T.epoch + 1 := wrap64 (by omega) (by omega)
  simp only [go_sem, true_and, and_true, ↓reduceIte, Nat.reduceEqDiff, Nat.reduceAdd, Bool.not_true, Bool.not_false, List.getElem?_cons_zero, List.getElem?_cons_succ, decide_true, decide_false, Bool.false_eq_true, fn80]
  refine go_build (cs := [.bool false, .int .i64 0, .int .i64 0, .nil, .nil, .int .i64 0, .nilm]) rfl ?_
  simp only [go_sem, true_and, and_true, ↓reduceIte, Nat.reduceEqDiff, Nat.reduceAdd, Bool.not_true, Bool.not_false, List.getElem?_cons_zero, List.getElem?_cons_succ, decide_true, decide_false, Bool.false_eq_true]
  refine go_storeP (sub := 0) p.obj rfl rfl rfl (by simp [tunC]) (by decide) ?_
  intro h1 f1 n1 e1
  simp only [tunC, splice, List.set_cons_zero, List.set_cons_succ] at e1
  have l7 : loadV h1 false 1 (.ptr t 0 7) = some (.int .i64 T.me) := ld0 e1 rfl
  simp only [go_sem, true_and, and_true, ↓reduceIte, Nat.reduceEqDiff, Nat.reduceAdd, Bool.not_true, Bool.not_false, List.getElem?_cons_zero, List.getElem?_cons_succ, decide_true, decide_false, Bool.false_eq_true, l7, w1]
  have hmin : (if (1099511627776 : Int) < T.me + 1 then (1099511627776 : Int) else T.me + 1) = min (T.me + 1) 1099511627776 := by split <;> omega
  refine go_store0 (v := .int .i64 (min (T.me + 1) 1099511627776)) (sub := 7) e1 rfl ?_ rfl (by simp) ?_
  · simp only [go_sem, true_and, and_true, ↓reduceIte, Nat.reduceEqDiff, Nat.reduceAdd, Bool.not_true, Bool.not_false, List.getElem?_cons_zero, List.getElem?_cons_succ, decide_true, decide_false, Bool.false_eq_true, hmin]
  intro h2 f2 n2 e2
  simp only [List.set_cons_zero, List.set_cons_succ] at e2
  have l9 : loadV h2 false 1 (.ptr t 0 9) = some (.int .i64 T.epoch) := ld0 e2 rfl
  simp only [go_sem, true_and, and_true, ↓reduceIte, Nat.reduceEqDiff, Nat.reduceAdd, Bool.not_true, Bool.not_false, List.getElem?_cons_zero, List.getElem?_cons_succ, decide_true, decide_false, Bool.false_eq_true, l9, w2]
  refine go_store0 (v := .int .i64 (T.epoch + 1)) (sub := 9) e2 rfl rfl rfl (by simp) ?_
  intro h3 f3 n3 e3
  simp only [List.set_cons_zero, List.set_cons_succ] at e3
  simp only [go_sem, true_and, and_true, ↓reduceIte, Nat.reduceEqDiff, Nat.reduceAdd, Bool.not_true, Bool.not_false, List.getElem?_cons_zero, List.getElem?_cons_succ, decide_true, decide_false, Bool.false_eq_true]
  have f03 : Fr [t] h h3 := (f1.trans f2 (by simp)).trans f3 (by simp)
  have nd := p.nd
  simp only [List.nodup_cons, List.mem_append, List.nodup_append, not_or] at nd
  obtain ⟨⟨a1, a2⟩, a3, a4, a5⟩ := nd
  refine hR h3 (t :: (So ++ [])) ⟨.nil, .nil, .nilm, ov, So, [], ⟨e3, .inr ⟨rfl, rfl⟩, .inr ⟨rfl, rfl⟩, p.out.fr f03 (fun k hk hm => by simp at hm; exact a1 (hm ▸ hk)), .inl ⟨rfl, rfl, rfl, rfl⟩, by simp [a1, a3]⟩, rfl⟩ ⟨f03.mono (by simp), ?_⟩
  intro k hk
  simp only [List.append_nil, List.mem_cons] at hk
  rcases hk with rfl | hk <;> simp [*]

theorem begin_spec (hG : Nibs G) {t : Nat} {T : Tn} {S : List Nat} (pT : TunR h t T S) (hb : T.out.length ≤ 1000000) (he : 0 ≤ T.epoch ∧ T.epoch ≤ 1099511627776) (you : Int) (R : V → Heap → Prop)
    (hR : ∀ h' S', TunR h' t (T.begin you) S' → Up h h' S S' → R (.tup []) h') : Calls0 Tryd.prog G 113 [.ptr t 0 0, .int .i64 you] h R := by
  obtain ⟨wv, qv, ev, ov, So, Sm, p, rfl⟩ := pT
  refine fn_walk mixed fn113uis [] rfl ?_
  have w2 : IntKind.i64.wrap (T.epoch + 1) = T.epoch + 1 := wrap64 (by omega) (by omega)
  have tlt := p.lt
  simp only [go_sem, true_and, and_true, ↓reduceIte, Nat.reduceEqDiff, Nat.reduceAdd, Bool.not_true, Bool.not_false, List.getElem?_cons_zero, List.getElem?_cons_succ, decide_true, decide_false, Bool.false_eq_true, fn113]
  refine go_store0 (v := .int .i64 you) (sub := 8) p.obj rfl rfl rfl (by simp [tunC]) ?_
  intro h1 f1 n1 e1
  simp only [tunC, List.set_cons_zero, List.set_cons_succ] at e1
  simp only [go_sem, true_and, and_true, ↓reduceIte, Nat.reduceEqDiff, Nat.reduceAdd, Bool.not_true, Bool.not_false, List.getElem?_cons_zero, List.getElem?_cons_succ, decide_true, decide_false, Bool.false_eq_true]
  have f2 : Fr [] h1 (h1.alloc (.map [] 0)) := Fr.alloc _ _
  have m2 : (h1.alloc (.map [] 0)).obj h1.next = some (.map [] 0) := alloc_new
  have n2 : (h1.alloc (.map [] 0)).next = h1.next + 1 := rfl
  have e2 := f2.at e1 (by simp)
  generalize h1.alloc (.map [] 0) = h2 at *
  refine go_build (cs := [.bool true, .int .i64 0, .int .i64 0, .nil, .nil, .int .i64 0, .map h1.next]) rfl ?_
  simp only [go_sem, true_and, and_true, ↓reduceIte, Nat.reduceEqDiff, Nat.reduceAdd, Bool.not_true, Bool.not_false, List.getElem?_cons_zero, List.getElem?_cons_succ, decide_true, decide_false, Bool.false_eq_true]
  refine go_storeP (sub := 0) e2 rfl rfl rfl (by simp) (by simp [V.one]) ?_
  intro h3 f3 n3 e3
  simp only [splice, List.set_cons_zero, List.set_cons_succ] at e3
  have tn : t ≠ h1.next := by have := tlt t (by simp); omega
  have m3 := f3.at m2 (by simp; omega)
  have l9 : loadV h3 false 1 (.ptr t 0 9) = some (.int .i64 T.epoch) := ld0 e3 rfl
  simp only [go_sem, true_and, and_true, ↓reduceIte, Nat.reduceEqDiff, Nat.reduceAdd, Bool.not_true, Bool.not_false, List.getElem?_cons_zero, List.getElem?_cons_succ, decide_true, decide_false, Bool.false_eq_true, l9, w2]
  refine go_store0 (v := .int .i64 (T.epoch + 1)) (sub := 9) e3 rfl rfl rfl (by simp) ?_
  intro h4 f4 n4 e4
  simp only [List.set_cons_zero, List.set_cons_succ] at e4
  have m4 := f4.at m3 (by simp; omega)
  simp only [go_sem, true_and, and_true, ↓reduceIte, Nat.reduceEqDiff, Nat.reduceAdd, Bool.not_true, Bool.not_false, List.getElem?_cons_zero, List.getElem?_cons_succ, decide_true, decide_false, Bool.false_eq_true]
  refine go_build (cs := [.int .i64 1, .int .i64 0, .int .i64 you, .int .i64 0, .int .i64 0, .int .i64 0, .nil]) rfl ?_
  simp only [go_sem, true_and, and_true, ↓reduceIte, Nat.reduceEqDiff, Nat.reduceAdd, Bool.not_true, Bool.not_false, List.getElem?_cons_zero, List.getElem?_cons_succ, decide_true, decide_false, Bool.false_eq_true]
  have f04 : Fr [t] h h4 := ((f1.trans f2 (by simp)).trans f3 (by simp)).trans f4 (by simp)
  have nd := p.nd
  simp only [List.nodup_cons, List.mem_append, List.nodup_append, not_or] at nd
  obtain ⟨⟨a1, a2⟩, a3, a4, a5⟩ := nd
  have q : TunR h4 t { T with up := true, silence := 0, next := 0, way := [], queue := [], expect := 0, early := [], you := you, epoch := T.epoch + 1 } (t :: (So ++ [h1.next])) := by
    refine ⟨.nil, .nil, .map h1.next, ov, So, [h1.next], ⟨e4, .inr ⟨rfl, rfl⟩, .inr ⟨rfl, rfl⟩, p.out.fr f04 (fun k hk hm => by simp at hm; exact a1 (hm ▸ hk)), .inr ⟨h1.next, [], 0, rfl, rfl, rfl, m4, rfl⟩, ?_⟩, rfl⟩
    simp only [List.nodup_cons, List.mem_append, List.nodup_append, not_or, List.mem_singleton]
    refine ⟨⟨a1, by omega⟩, a3, by simp, fun k hk j hj => ?_⟩
    have := tlt k (by simp [hk])
    omega
  refine say_spec hG q hb (helloM you) .nil Rs.nil rfl _ ?_
  intro h5 S5 q5 u5
  simp only [go_sem, true_and, and_true, ↓reduceIte, Nat.reduceEqDiff, Nat.reduceAdd, Bool.not_true, Bool.not_false, List.getElem?_cons_zero, List.getElem?_cons_succ, decide_true, decide_false, Bool.false_eq_true]
  refine hR h5 S5 q5 ((show Up h h4 (t :: (So ++ Sm)) (t :: (So ++ [h1.next])) from ⟨f04.mono (by simp), fun k hk => ?_⟩).trans u5)
  simp only [List.mem_cons, List.mem_append, List.mem_singleton, List.not_mem_nil, or_false] at hk
  rcases hk with rfl | hk | rfl
  · simp
  · simp [hk]
  · exact .inr (by omega)

end Go.Am

/- Walking: re-reads; first elements; clones. -/
namespace Go.Am
variable {P : Program} {G : Nat → V} {a : Tm} {h h' : Heap} {n : Nat}

@[go_sem] theorem rr_cons0 {d : Nat} {i : I} {rs : List (Option (Nat × Bool) × Nat × I)} : rrOk G a h ((none, d, i) :: rs) = (stepI G a h i = some (a d, h) ∧ rrOk G a h rs) := (rfl)
theorem rr_cons1 {t d : Nat} {b : Bool} {i : I} {rs : List (Option (Nat × Bool) × Nat × I)} : rrOk G a h ((some (t, b), d, i) :: rs) = ((a t = .bool b → stepI G a h i = some (a d, h)) ∧ rrOk G a h rs) := (rfl)
@[go_sem] theorem ld_c {n : Nat} {c : V} {cs : List V} : loadV h false n (.cptr (c :: cs)) = some c := (rfl)

def iaO (G : Nat → V) (a : Tm) (h : Heap) (sz : Nat) (x : Opd) : Option (V × Heap) := stepI G a h (.iaddr sz x (.c (.int .i64 0)))
/-- &x[0] of a row that nobody writes. -/
theorem ia0 {sz : Nat} {x : Opd} : stepI G a h (.iaddr sz x (.c (.int .i64 0))) = (match x.ev G a with
    | .lst (e :: _) => if e.cells.length = sz then some (.cptr e.cells, h) else none
    | _ => iaO G a h sz x) := by
  split
  · rename_i e es hx
    have hi : idx ((Opd.c (V.int .i64 0)).ev G a) = some 0 := rfl
    simp only [stepI, hx, hi, List.getElem?_cons_zero]
  · rfl

theorem clone_any {f ty sz bytes : Nat} (hm : P.follows .mixedOrders = true) (e : cFn P f = some (cloneFn ty sz bytes)) {v : V} {xs : List V} (hr : readL h v = some xs) (h1 : xs.length * bytes ≤ 70368744177664) (h2 : xs.length ≤ 70368744177664) (hz : szOk sz xs = true) (R : V → Heap → Prop)
    (hR : ∀ v' h', Fresh h h' ty sz xs v' → R v' h') : Calls0 P G f [v] h R := by
  by_cases h0 : xs = []
  · subst h0
    have : appendV h ty sz bytes .nil v = some (.nil, h) := by
      simp only [appendV, hr]
      rw [if_pos ⟨h1, h2, hz⟩, if_pos trivial]
    exact clone_calls hm e this R (hR _ _ ⟨Fr.refl _ _, [], Row.nil, by simp⟩)
  · exact clone_calls hm e (append_nil hr h1 h2 hz h0) R (hR _ _ ((show Own _ h.next ty sz xs _ from ⟨rfl, alloc_new⟩).fresh (Fr.alloc _ _) (Nat.le_refl _)))

end Go.Am

/- tunnel: hello, slide. -/
namespace Go.Am
open Go.Proofs
variable {G : Nat → V} {h h' h'' : Heap}

theorem clone53 {v : V} {bs : List UInt8} (hr : readL h v = some (bs.map b8)) (hb : bs.length ≤ 1073741824) (R : V → Heap → Prop) (hR : ∀ v' h', Fresh h h' 5 1 (bs.map b8) v' → R v' h') : Calls0 Tryd.prog G 53 [v] h R :=
  clone_any mixed fn53uis hr (by simp; omega) (by simp; omega) (szOk_b8 _) R hR
theorem szOk_lb (l : List (List UInt8)) : szOk 1 (l.map lb) = true := by cases l <;> rfl
theorem szOk_sent (l : List (Int × List UInt8 × Int)) : szOk 3 (l.map sentV) = true := by cases l <;> rfl
theorem lb_cells1 (l : List (List UInt8)) : ∀ x ∈ l.map lb, x.cells.length = 1 := fun x hx => by
  obtain ⟨y, _, rfl⟩ := List.mem_map.1 hx
  rfl
theorem sent_cells3 (l : List (Int × List UInt8 × Int)) : ∀ x ∈ l.map sentV, x.cells.length = 3 := fun x hx => by
  obtain ⟨y, _, rfl⟩ := List.mem_map.1 hx
  rfl
theorem clone56 {v : V} {l : List (List UInt8)} (hr : readL h v = some (l.map lb)) (hb : l.length ≤ 1073741824) (R : V → Heap → Prop) (hR : ∀ v' h', Fresh h h' 27 1 (l.map lb) v' → R v' h') : Calls0 Tryd.prog G 56 [v] h R :=
  clone_any mixed fn56uis hr (by simp; omega) (by simp; omega) (szOk_lb _) R hR
theorem clone81 {v : V} {l : List (Int × List UInt8 × Int)} (hr : readL h v = some (l.map sentV)) (hb : l.length ≤ 1073741824) (R : V → Heap → Prop) (hR : ∀ v' h', Fresh h h' 140 3 (l.map sentV) v' → R v' h') : Calls0 Tryd.prog G 81 [v] h R :=
  clone_any mixed fn81uis hr (by simp; omega) (by simp; omega) (szOk_sent _) R hR

def Tn.hello (T : Tn) (f : Fm) : Tn :=
  if f.you ≠ T.me then (if f.src ≥ T.you then T.say (helloM f.src) else T)
  else if f.src > T.you ∨ (f.src = T.you ∧ T.up = false) then T.begin f.src
  else if f.src = T.you then { T with silence := 0 } else T

theorem hello_spec (hG : Nibs G) {t : Nat} {T : Tn} {S : List Nat} (pT : TunR h t T S) (hb : T.out.length ≤ 1000000) (he : 0 ≤ T.epoch ∧ T.epoch ≤ 1099511627776) (f : Fm) (fb : V) (f1 : fb.one = true) (R : V → Heap → Prop)
    (hR : ∀ h' S', TunR h' t (T.hello f) S' → Up h h' S S' → R (.tup []) h') : Calls0 Tryd.prog G 94 [.ptr t 0 0, f.v fb] h R := by
  refine fn_walk mixed fn94uis [] rfl ?_
  simp only [go_sem, true_and, and_true, ↓reduceIte, Nat.reduceEqDiff, Nat.reduceAdd, Bool.not_true, Bool.not_false, List.getElem?_cons_zero, List.getElem?_cons_succ, decide_true, decide_false, Bool.false_eq_true, fn94]
  refine go_box (v := f.v fb) rfl rfl (fm_sane f1) ?_
  intro h1 fr1 e1
  have p1 := pT.new fr1 (by simp)
  have up1 : Up h h1 S S := ⟨fr1.mono (by simp), fun _ hk => .inl hk⟩
  obtain ⟨wv, qv, ev, ov, So, Sm, p, rfl⟩ := p1
  have tlt : t < h.next := pT.lt t pT.mem
  have l1 : loadV h1 false 1 (.ptr h.next 0 1) = some (.int .i64 f.src) := ld0 e1 rfl
  have l2 : loadV h1 false 1 (.ptr h.next 0 2) = some (.int .i64 f.you) := ld0 e1 rfl
  have m0 : loadV h1 false 1 (.ptr t 0 0) = some (.bool T.up) := ld0 p.obj rfl
  have m7 : loadV h1 false 1 (.ptr t 0 7) = some (.int .i64 T.me) := ld0 p.obj rfl
  have m8 : loadV h1 false 1 (.ptr t 0 8) = some (.int .i64 T.you) := ld0 p.obj rfl
  unfold Tn.hello at hR
  have pR : TunR h1 t T (t :: (So ++ Sm)) := ⟨wv, qv, ev, ov, So, Sm, p, rfl⟩
  by_cases c1 : f.you = T.me
  · have c1' : (f.you != T.me) = false := by simpa using c1
    rw [if_neg (by simpa using c1)] at hR
    by_cases c2 : f.src > T.you
    · rw [if_pos (.inl c2)] at hR
      simp only [go_sem, true_and, and_true, ↓reduceIte, Nat.reduceEqDiff, Nat.reduceAdd, Bool.not_true, Bool.not_false, List.getElem?_cons_zero, List.getElem?_cons_succ, decide_true, decide_false, Bool.false_eq_true, l1, l2, m7, m8, c1', c2, fn94u1]
      refine begin_spec hG pR hb he f.src _ ?_
      intro h' S' q u
      simp only [go_sem, true_and, and_true, ↓reduceIte, Nat.reduceEqDiff, Nat.reduceAdd, Bool.not_true, Bool.not_false, List.getElem?_cons_zero, List.getElem?_cons_succ, decide_true, decide_false, Bool.false_eq_true]
      exact hR h' S' q (up1.trans u)
    · by_cases c3 : f.src = T.you
      · have c3' : (f.src == T.you) = true := by simpa using c3
        cases hu : T.up with
        | false =>
          rw [if_pos (.inr ⟨c3, hu⟩)] at hR
          simp only [go_sem, true_and, and_true, ↓reduceIte, Nat.reduceEqDiff, Nat.reduceAdd, Bool.not_true, Bool.not_false, List.getElem?_cons_zero, List.getElem?_cons_succ, decide_true, decide_false, Bool.false_eq_true, l1, l2, m7, m8, m0, c1', c2, c3', hu, fn94u1]
          refine begin_spec hG pR hb he f.src _ ?_
          intro h' S' q u
          simp only [go_sem, true_and, and_true, ↓reduceIte, Nat.reduceEqDiff, Nat.reduceAdd, Bool.not_true, Bool.not_false, List.getElem?_cons_zero, List.getElem?_cons_succ, decide_true, decide_false, Bool.false_eq_true]
          exact hR h' S' q (up1.trans u)
        | true =>
          rw [if_neg (fun hh => by rcases hh with hh | hh; exact c2 hh; rw [hu] at hh; exact absurd hh.2 (by simp)), if_pos c3] at hR
          simp only [go_sem, true_and, and_true, ↓reduceIte, Nat.reduceEqDiff, Nat.reduceAdd, Bool.not_true, Bool.not_false, List.getElem?_cons_zero, List.getElem?_cons_succ, decide_true, decide_false, Bool.false_eq_true, l1, l2, m7, m8, m0, c1', c2, c3', hu, fn94u1]
          refine go_store0 (v := .int .i64 0) (sub := 1) p.obj rfl rfl rfl (by simp [tunC]) ?_
          intro h2 f2 n2 e2
          simp only [tunC, List.set_cons_zero, List.set_cons_succ] at e2
          simp only [go_sem, true_and, and_true, ↓reduceIte, Nat.reduceEqDiff, Nat.reduceAdd, Bool.not_true, Bool.not_false, List.getElem?_cons_zero, List.getElem?_cons_succ, decide_true, decide_false, Bool.false_eq_true]
          have nd := p.nd
          simp only [List.nodup_cons, List.mem_append, not_or] at nd
          refine hR h2 (t :: (So ++ Sm)) ⟨wv, qv, ev, ov, So, Sm, ⟨e2, p.way, p.queue, p.out.fr f2 (fun k hk hm => by simp at hm; exact nd.1.1 (hm ▸ hk)), p.early.fr f2 (fun k hk hm => by simp at hm; exact nd.1.2 (hm ▸ hk)), p.nd⟩, rfl⟩ (up1.trans ⟨f2.mono (by simp), fun _ hk => .inl hk⟩)
      · have c3' : (f.src == T.you) = false := by simpa using c3
        rw [if_neg (fun hh => by rcases hh with hh | hh; exact c2 hh; exact c3 hh.1), if_neg c3] at hR
        simp only [go_sem, true_and, and_true, ↓reduceIte, Nat.reduceEqDiff, Nat.reduceAdd, Bool.not_true, Bool.not_false, List.getElem?_cons_zero, List.getElem?_cons_succ, decide_true, decide_false, Bool.false_eq_true, l1, l2, m7, m8, m0, c1', c2, c3', fn94u1]
        exact hR h1 _ pR up1
  · have c1' : (f.you != T.me) = true := by simpa using c1
    rw [if_pos (by simpa using c1)] at hR
    by_cases c2 : f.src ≥ T.you
    · rw [if_pos c2] at hR
      simp only [go_sem, true_and, and_true, ↓reduceIte, Nat.reduceEqDiff, Nat.reduceAdd, Bool.not_true, Bool.not_false, List.getElem?_cons_zero, List.getElem?_cons_succ, decide_true, decide_false, Bool.false_eq_true, l1, l2, m7, m8, c1', c2]
      refine go_build (cs := [.int .i64 1, .int .i64 0, .int .i64 f.src, .int .i64 0, .int .i64 0, .int .i64 0, .nil]) rfl ?_
      simp only [go_sem, true_and, and_true, ↓reduceIte, Nat.reduceEqDiff, Nat.reduceAdd, Bool.not_true, Bool.not_false, List.getElem?_cons_zero, List.getElem?_cons_succ, decide_true, decide_false, Bool.false_eq_true]
      refine say_spec hG pR hb (helloM f.src) .nil Rs.nil rfl _ ?_
      intro h' S' q u
      simp only [go_sem, true_and, and_true, ↓reduceIte, Nat.reduceEqDiff, Nat.reduceAdd, Bool.not_true, Bool.not_false, List.getElem?_cons_zero, List.getElem?_cons_succ, decide_true, decide_false, Bool.false_eq_true]
      exact hR h' S' q (up1.trans u)
    · rw [if_neg c2] at hR
      simp only [go_sem, true_and, and_true, ↓reduceIte, Nat.reduceEqDiff, Nat.reduceAdd, Bool.not_true, Bool.not_false, List.getElem?_cons_zero, List.getElem?_cons_succ, decide_true, decide_false, Bool.false_eq_true, l1, l2, m7, m8, c1', c2]
      exact hR h1 _ pR up1

end Go.Am

/- tunnel: slide. -/
namespace Go.Am
open Go.Proofs
variable {G : Nat → V} {h h' h'' : Heap}

/-- May the next message go on the way? -/
def Tn.free (T : Tn) : Prop := T.way = [] ∨ T.next + 1 - (T.way.headD (0, [], 0)).1 < 16
instance (T : Tn) : Decidable T.free := inferInstanceAs (Decidable (T.way = [] ∨ T.next + 1 - (T.way.headD (0, [], 0)).1 < 16))

/-- A message goes on the way, and q wait. -/
def Tn.step (T : Tn) (b : List UInt8) (q : List (List UInt8)) : Tn := Tn.say { T with next := T.next + 1, way := T.way ++ [(T.next + 1, b, 0)], queue := q } (dataM T.you (T.next + 1) b)
def Tn.slideGo : List (List UInt8) → Tn → Tn
  | [], T => T
  | b :: q, T => if T.free then slideGo q (T.step b q) else T
def Tn.slide (T : Tn) : Tn := T.slideGo T.queue

/-- The bounds that sliding asks for. -/
structure SlB (T : Tn) : Prop where
  n0 : 0 ≤ T.next
  n1 : T.next + T.queue.length ≤ 1099511627776
  w0 : ∀ s ∈ T.way, 0 ≤ s.1 ∧ s.1 ≤ 1099511627776
  wl : T.way.length + T.queue.length ≤ 100000
  ol : T.out.length + T.queue.length ≤ 1000000
  bl : ∀ b ∈ T.queue, b.length ≤ 1048576

theorem SlB.step {T : Tn} {b : List UInt8} {q : List (List UInt8)} (B : SlB T) (e : T.queue = b :: q) : SlB (T.step b q) := by
  obtain ⟨n0, n1, w0, wl, ol, bl⟩ := B
  rw [e] at n1 wl ol bl
  simp only [List.length_cons] at n1 wl ol
  refine ⟨?_, ?_, ?_, ?_, ?_, ?_⟩
  · show 0 ≤ T.next + 1; omega
  · show T.next + 1 + (q.length : Int) ≤ _; omega
  · intro s hs
    have hs : s ∈ T.way ++ [(T.next + 1, b, 0)] := hs
    simp only [List.mem_append, List.mem_singleton] at hs
    rcases hs with hs | rfl
    · exact w0 s hs
    · simp only; omega
  · show (T.way ++ [(T.next + 1, b, 0)]).length + q.length ≤ _; simp; omega
  · show (T.out ++ [_]).length + q.length ≤ _; simp; omega
  · exact fun x hx => bl x (by simp only [List.mem_cons]; exact .inr hx)

theorem slideGo_queue : ∀ (q : List (List UInt8)) (T : Tn), T.queue = q → T.slide = T.slideGo q := fun q T e => by rw [Tn.slide, e]

/-- A field of a tunnel is written over. -/
theorem TunP.put {t : Nat} {T T' : Tn} {wv qv ev ov wv' qv' : V} {So Sm : List Nat} (p : TunP h t T wv qv ev ov So Sm) (f : Fr [t] h h') (e : h'.obj t = some (.arr 109 12 [.agg (tunC T' wv' qv' ev ov)]))
    (hw : Fz wv' (T'.way.map sentV)) (hq : Fz qv' (T'.queue.map lb)) (ho : T'.out = T.out) (he : T'.early = T.early) (hu : T'.up = T.up) : TunP h' t T' wv' qv' ev ov So Sm := by
  have nd := p.nd
  simp only [List.nodup_cons, List.mem_append, not_or] at nd
  refine ⟨e, hw, hq, ?_, ?_, p.nd⟩
  · rw [ho]; exact p.out.fr f (fun k hk hm => by simp at hm; exact nd.1.1 (hm ▸ hk))
  · rw [he, hu]; exact p.early.fr f (fun k hk hm => by simp at hm; exact nd.1.2 (hm ▸ hk))

/-- The second half of a round. -/
theorem slide_half (hG : Nibs G) {t : Nat} {T : Tn} {S : List Nat} (pT : TunR h t T S) (hol : T.out.length ≤ 1000000) (hql : T.queue.length ≤ 100000) {b : List UInt8} {q : List (List UInt8)} (hq : T.queue = b :: q) (a : Tm) (a0 : a 0 = .ptr t 0 0) (Q : Tm → Heap → Prop) (QE : Ex → Tm → Heap → Prop)
    (hQ : ∀ h' S' a', TunR h' t { Tn.say T (dataM T.you T.next b) with queue := q } S' → Up h h' S S' → a' 0 = .ptr t 0 0 → Q a' h') : wpC (Calls0 Tryd.prog G) G [66, 96] fn76u2 (blockQ 1 (thenQ Q QE)) a h := by
  have pp := pT
  obtain ⟨wv, qv, ev, ov, So, Sm, p, hS⟩ := pp
  have hqv : qv = .lst (lb b :: q.map lb) := by
    rcases p.queue with e | ⟨_, e⟩
    · rw [e, hq]; rfl
    · rw [hq] at e; cases e
  subst hqv
  have l8 : loadV h false 1 (.ptr t 0 8) = some (.int .i64 T.you) := ld0 p.obj rfl
  have l2 : loadV h false 1 (.ptr t 0 2) = some (.int .i64 T.next) := ld0 p.obj rfl
  have l4 : loadV h false 1 (.ptr t 0 4) = some (.lst (lb b :: q.map lb)) := ld0 p.obj rfl
  have sc : (lb b).cells = [lb b] := rfl
  have len1 : ([lb b] : List V).length = 1 := rfl
  simp only [go_sem, true_and, and_true, ↓reduceIte, Nat.reduceEqDiff, Nat.reduceAdd, Bool.not_true, Bool.not_false, List.getElem?_cons_zero, List.getElem?_cons_succ, decide_true, decide_false, Bool.false_eq_true, fn76u2, a0, l8, l2, l4, ia0, sc, len1]
  refine go_build (cs := [.int .i64 2, .int .i64 0, .int .i64 T.you, .int .i64 T.next, .int .i64 0, .int .i64 0, lb b]) rfl ?_
  simp only [go_sem, true_and, and_true, ↓reduceIte, Nat.reduceEqDiff, Nat.reduceAdd, Bool.not_true, Bool.not_false, List.getElem?_cons_zero, List.getElem?_cons_succ, decide_true, decide_false, Bool.false_eq_true, a0]
  refine say_spec hG pT hol (dataM T.you T.next b) (lb b) (lb_rs b) rfl _ ?_
  intro h1 S1 q1 u1
  obtain ⟨wv1, qv1, ev1, ov1, So1, Sm1, p1, rfl⟩ := q1
  have hqv1 : qv1 = .lst (lb b :: q.map lb) := by
    rcases p1.queue with e | ⟨_, e⟩
    · rw [e]; show V.lst (T.queue.map lb) = _; rw [hq]; rfl
    · have e : T.queue.map lb = [] := e
      rw [hq] at e; cases e
  subst hqv1
  have m4 : loadV h1 false 1 (.ptr t 0 4) = some (.lst (lb b :: q.map lb)) := ld0 p1.obj rfl
  simp only [go_sem, true_and, and_true, ↓reduceIte, Nat.reduceEqDiff, Nat.reduceAdd, Bool.not_true, Bool.not_false, List.getElem?_cons_zero, List.getElem?_cons_succ, decide_true, decide_false, Bool.false_eq_true, a0, m4]
  refine go_sliceL (l := 1) (n := (lb b :: q.map lb).length) (xs := lb b :: q.map lb) rfl rfl ?_ (by simp) (by simp) rfl ?_
  · rfl
  have hsl : ((lb b :: q.map lb).take (lb b :: q.map lb).length).drop 1 = q.map lb := by rw [List.take_length]; rfl
  rw [hsl]
  simp only [go_sem, true_and, and_true, ↓reduceIte, Nat.reduceEqDiff, Nat.reduceAdd, Bool.not_true, Bool.not_false, List.getElem?_cons_zero, List.getElem?_cons_succ, decide_true, decide_false, Bool.false_eq_true, a0]
  rw [hq] at hql
  simp only [List.length_cons] at hql
  refine clone56 (l := q) rfl (by omega) _ ?_
  intro v2 h2 w2
  simp only [go_sem, true_and, and_true, ↓reduceIte, Nat.reduceEqDiff, Nat.reduceAdd, Bool.not_true, Bool.not_false, List.getElem?_cons_zero, List.getElem?_cons_succ, decide_true, decide_false, Bool.false_eq_true, a0]
  refine frz_fresh w2 ?_
  intro h3 f3
  have p3 := p1.new f3 (by simp)
  simp only [go_sem, true_and, and_true, ↓reduceIte, Nat.reduceEqDiff, Nat.reduceAdd, Bool.not_true, Bool.not_false, List.getElem?_cons_zero, List.getElem?_cons_succ, decide_true, decide_false, Bool.false_eq_true, a0]
  refine go_store0 (v := .lst (q.map lb)) (sub := 4) p3.obj ?_ ?_ rfl (by simp [tunC]) ?_
  · simp only [go_sem, true_and, and_true, ↓reduceIte, Nat.reduceEqDiff, Nat.reduceAdd, Bool.not_true, Bool.not_false, List.getElem?_cons_zero, List.getElem?_cons_succ, decide_true, decide_false, Bool.false_eq_true, a0]
  · simp only [go_sem, true_and, and_true, ↓reduceIte, Nat.reduceEqDiff, Nat.reduceAdd, Bool.not_true, Bool.not_false, List.getElem?_cons_zero, List.getElem?_cons_succ, decide_true, decide_false, Bool.false_eq_true, a0]
  intro h4 f4 n4 e4
  simp only [tunC, List.set_cons_zero, List.set_cons_succ] at e4
  simp only [go_sem, true_and, and_true, ↓reduceIte, Nat.reduceEqDiff, Nat.reduceAdd, Bool.not_true, Bool.not_false, List.getElem?_cons_zero, List.getElem?_cons_succ, decide_true, decide_false, Bool.false_eq_true, a0]
  have p4 := p3.put (T' := { Tn.say T (dataM T.you T.next b) with queue := q }) f4 e4 p3.way (.inl rfl) rfl rfl rfl
  refine hQ h4 _ _ ⟨_, _, _, _, _, _, p4, rfl⟩ (u1.trans ⟨(f3.mono (by simp)).trans f4 (by simp), fun _ hk => .inl hk⟩) ?_
  simp only [go_sem, true_and, and_true, ↓reduceIte, Nat.reduceEqDiff, Nat.reduceAdd, Bool.not_true, Bool.not_false, List.getElem?_cons_zero, List.getElem?_cons_succ, decide_true, decide_false, Bool.false_eq_true, a0]

/-- One round: a message goes on the way. -/
theorem slide_round (hG : Nibs G) {t : Nat} {T : Tn} {S : List Nat} (pT : TunR h t T S) (B : SlB T) {b : List UInt8} {q : List (List UInt8)} (hq : T.queue = b :: q) (a : Tm) (a0 : a 0 = .ptr t 0 0) (Q : Tm → Heap → Prop) (QE : Ex → Tm → Heap → Prop)
    (hQ : ∀ h' S' a', TunR h' t (T.step b q) S' → Up h h' S S' → a' 0 = .ptr t 0 0 → Q a' h') : wpC (Calls0 Tryd.prog G) G [66, 96] fn76u3 (thenQ Q QE) a h := by
  obtain ⟨wv, qv, ev, ov, So, Sm, p, rfl⟩ := pT
  have hqv : qv = .lst (lb b :: q.map lb) := by
    rcases p.queue with e | ⟨_, e⟩
    · rw [e, hq]; rfl
    · rw [hq] at e; cases e
  subst hqv
  have bn0 := B.n0
  have bn1 := B.n1
  have wl := B.wl
  have w1 : IntKind.i64.wrap (T.next + 1) = T.next + 1 := wrap64 (by omega) (by omega)
  have l2 : loadV h false 1 (.ptr t 0 2) = some (.int .i64 T.next) := ld0 p.obj rfl
  have sc : (lb b).cells = [lb b] := rfl
  have len1 : ([lb b] : List V).length = 1 := rfl
  simp only [go_sem, true_and, and_true, ↓reduceIte, Nat.reduceEqDiff, Nat.reduceAdd, Bool.not_true, Bool.not_false, List.getElem?_cons_zero, List.getElem?_cons_succ, decide_true, decide_false, Bool.false_eq_true, fn76u3, a0, l2, w1]
  refine go_store0 (v := .int .i64 (T.next + 1)) (sub := 2) p.obj ?_ ?_ rfl (by simp [tunC]) ?_
  · simp only [go_sem, true_and, and_true, ↓reduceIte, Nat.reduceEqDiff, Nat.reduceAdd, Bool.not_true, Bool.not_false, List.getElem?_cons_zero, List.getElem?_cons_succ, decide_true, decide_false, Bool.false_eq_true, a0]
  · simp only [go_sem, true_and, and_true, ↓reduceIte, Nat.reduceEqDiff, Nat.reduceAdd, Bool.not_true, Bool.not_false, List.getElem?_cons_zero, List.getElem?_cons_succ, decide_true, decide_false, Bool.false_eq_true, a0]
  intro h1 f1 n1 e1
  simp only [tunC, List.set_cons_zero, List.set_cons_succ] at e1
  have p1 := p.put (T' := { T with next := T.next + 1 }) f1 e1 p.way p.queue rfl rfl rfl
  have m2 : loadV h1 false 1 (.ptr t 0 2) = some (.int .i64 (T.next + 1)) := ld0 p1.obj rfl
  have m3 : loadV h1 false 1 (.ptr t 0 3) = some wv := ld0 p1.obj rfl
  have m4 : loadV h1 false 1 (.ptr t 0 4) = some (.lst (lb b :: q.map lb)) := ld0 p1.obj rfl
  simp only [go_sem, true_and, and_true, ↓reduceIte, Nat.reduceEqDiff, Nat.reduceAdd, Bool.not_true, Bool.not_false, List.getElem?_cons_zero, List.getElem?_cons_succ, decide_true, decide_false, Bool.false_eq_true, a0, m2, m3, m4, ia0, sc, len1]
  refine go_build (cs := [.int .i64 (T.next + 1), lb b, .int .i64 0]) rfl ?_
  -- behind the append: the row is stored, and said
  have tail : ∀ (h5 : Heap) (a : Tm), Fr [] h1 h5 → a 0 = .ptr t 0 0 → a 45 = .ptr t 0 0 → a 66 = .lst ((T.way ++ [(T.next + 1, b, 0)]).map sentV) →
      wpIs (Calls0 Tryd.prog G) G [] [⟨some 67, none, .nilck (.t 45), []⟩,
    ⟨some 68, none, .faddr (.t 67) 0, []⟩,
    ⟨some 69, none, .faddr (.t 68) 3, []⟩] (wpI (Calls0 Tryd.prog G) G [66, 96] ⟨none, none, .store 1 (.t 69) (.t 66), []⟩ (wpT (Calls0 Tryd.prog G) G [66, 96] .done (thenQ (wpC (Calls0 Tryd.prog G) G [66, 96] fn76u2 (blockQ 1 (thenQ Q QE))) (blockQ 1 (thenQ Q QE)) .normal))) a h5 := by
    intro h5 a f5 a0 a45 a66
    have p5 := p1.new f5 (by simp)
    simp only [go_sem, true_and, and_true, ↓reduceIte, Nat.reduceEqDiff, Nat.reduceAdd, Bool.not_true, Bool.not_false, List.getElem?_cons_zero, List.getElem?_cons_succ, decide_true, decide_false, Bool.false_eq_true, a0, a45, a66]
    refine go_store0 (v := .lst ((T.way ++ [(T.next + 1, b, 0)]).map sentV)) (sub := 3) p5.obj ?_ ?_ rfl (by simp [tunC]) ?_
    · simp only [go_sem, true_and, and_true, ↓reduceIte, Nat.reduceEqDiff, Nat.reduceAdd, Bool.not_true, Bool.not_false, List.getElem?_cons_zero, List.getElem?_cons_succ, decide_true, decide_false, Bool.false_eq_true]
    · simp only [go_sem, true_and, and_true, ↓reduceIte, Nat.reduceEqDiff, Nat.reduceAdd, Bool.not_true, Bool.not_false, List.getElem?_cons_zero, List.getElem?_cons_succ, decide_true, decide_false, Bool.false_eq_true, a66]
    intro h6 f6 n6 e6
    simp only [tunC, List.set_cons_zero, List.set_cons_succ] at e6
    have p6 := p5.put (T' := { T with next := T.next + 1, way := T.way ++ [(T.next + 1, b, 0)] }) f6 e6 (.inl rfl) p5.queue rfl rfl rfl
    simp only [go_sem, true_and, and_true, ↓reduceIte, Nat.reduceEqDiff, Nat.reduceAdd, Bool.not_true, Bool.not_false, List.getElem?_cons_zero, List.getElem?_cons_succ, decide_true, decide_false, Bool.false_eq_true]
    have u6 : Up h h6 (t :: (So ++ Sm)) (t :: (So ++ Sm)) := ⟨((f1.mono (T := t :: (So ++ Sm)) (by simp)).trans f5 (by simp)).trans f6 (by simp), fun _ hk => .inl hk⟩
    refine slide_half hG (T := { T with next := T.next + 1, way := T.way ++ [(T.next + 1, b, 0)] }) ⟨_, _, _, _, _, _, p6, rfl⟩ ?_ ?_ hq _ ?_ Q QE ?_
    · have := B.ol; show T.out.length ≤ _; omega
    · show T.queue.length ≤ _; omega
    · simp only [go_sem, true_and, and_true, ↓reduceIte, Nat.reduceEqDiff, Nat.reduceAdd, Bool.not_true, Bool.not_false, List.getElem?_cons_zero, List.getElem?_cons_succ, decide_true, decide_false, Bool.false_eq_true, a0]
    · intro h7 S7 a7 q7 u7 a70
      exact hQ h7 S7 a7 q7 (u6.trans u7) a70
  have hmap : (T.way ++ [(T.next + 1, b, 0)]).map sentV = T.way.map sentV ++ [sentV (T.next + 1, b, 0)] := by simp
  simp only [go_sem, true_and, and_true, ↓reduceIte, Nat.reduceEqDiff, Nat.reduceAdd, Bool.not_true, Bool.not_false, List.getElem?_cons_zero, List.getElem?_cons_succ, decide_true, decide_false, Bool.false_eq_true, a0]
  refine ⟨?_, ?_⟩
  · refine clone81 (l := T.way) p1.way.read (by omega) _ ?_
    intro v2 h2 w2
    have p2 := p1.new w2.1 (by simp)
    have k2 : loadV h2 false 1 (.ptr t 0 2) = some (.int .i64 (T.next + 1)) := ld0 p2.obj rfl
    have k3 : loadV h2 false 1 (.ptr t 0 3) = some wv := ld0 p2.obj rfl
    have k4 : loadV h2 false 1 (.ptr t 0 4) = some (.lst (lb b :: q.map lb)) := ld0 p2.obj rfl
    simp only [go_sem, true_and, and_true, ↓reduceIte, Nat.reduceEqDiff, Nat.reduceAdd, Bool.not_true, Bool.not_false, List.getElem?_cons_zero, List.getElem?_cons_succ, decide_true, decide_false, Bool.false_eq_true, a0, k2, k3, k4, ia0, sc, len1]
    refine go_bslice (xs := [sentV (T.next + 1, b, 0)]) rfl rfl (by omega) ?_ rfl ?_
    · simp only [go_sem, true_and, and_true, ↓reduceIte, Nat.reduceEqDiff, Nat.reduceAdd, Bool.not_true, Bool.not_false, List.getElem?_cons_zero, List.getElem?_cons_succ, decide_true, decide_false, Bool.false_eq_true]
      rfl
    intro v3 h3 w3 f3
    have p3 := p2.new f3 (by simp)
    have j3 : loadV h3 false 1 (.ptr t 0 3) = some wv := ld0 p3.obj rfl
    simp only [go_sem, true_and, and_true, ↓reduceIte, Nat.reduceEqDiff, Nat.reduceAdd, Bool.not_true, Bool.not_false, List.getElem?_cons_zero, List.getElem?_cons_succ, decide_true, decide_false, Bool.false_eq_true, a0, j3]
    obtain ⟨f2, S2, r2, s2⟩ := w2
    have r3 := r2.fr f3 (by simp)
    refine go_appendR (ys := [sentV (T.next + 1, b, 0)]) r3 ?_ ?_ ?_ ?_ rfl ?_
    · simp only [go_sem, true_and, and_true, ↓reduceIte, Nat.reduceEqDiff, Nat.reduceAdd, Bool.not_true, Bool.not_false, List.getElem?_cons_zero, List.getElem?_cons_succ, decide_true, decide_false, Bool.false_eq_true]
    · simp only [go_sem, true_and, and_true, ↓reduceIte, Nat.reduceEqDiff, Nat.reduceAdd, Bool.not_true, Bool.not_false, List.getElem?_cons_zero, List.getElem?_cons_succ, decide_true, decide_false, Bool.false_eq_true]
      exact w3.read
    · simp; omega
    · simp; omega
    intro S4 v4 h4 w4 f4 s4
    simp only [go_sem, true_and, and_true, ↓reduceIte, Nat.reduceEqDiff, Nat.reduceAdd, Bool.not_true, Bool.not_false, List.getElem?_cons_zero, List.getElem?_cons_succ, decide_true, decide_false, Bool.false_eq_true]
    refine frz_row w4 ?_
    intro h5 f5 n5
    refine tail h5 _ ?_ ?_ ?_ ?_
    · have f13 : Fr [] h1 h3 := f2.trans f3 (by simp)
      have f14 : Fr [] h1 h4 := f13.trans f4 (fun k hk => .inr (s2 k hk))
      refine f14.trans f5 (fun k hk => .inr ?_)
      rcases s4 k hk with g | g
      · exact s2 k g
      · exact Nat.le_trans f13.next g
    · simp only [go_sem, true_and, and_true, ↓reduceIte, Nat.reduceEqDiff, Nat.reduceAdd, Bool.not_true, Bool.not_false, List.getElem?_cons_zero, List.getElem?_cons_succ, decide_true, decide_false, Bool.false_eq_true, a0]
    · simp only [go_sem, true_and, and_true, ↓reduceIte, Nat.reduceEqDiff, Nat.reduceAdd, Bool.not_true, Bool.not_false, List.getElem?_cons_zero, List.getElem?_cons_succ, decide_true, decide_false, Bool.false_eq_true, a0]
    · simp only [go_sem, true_and, and_true, ↓reduceIte, Nat.reduceEqDiff, Nat.reduceAdd, Bool.not_true, Bool.not_false, List.getElem?_cons_zero, List.getElem?_cons_succ, decide_true, decide_false, Bool.false_eq_true, hmap]
  · refine go_bslice (xs := [sentV (T.next + 1, b, 0)]) rfl rfl (by omega) ?_ rfl ?_
    · simp only [go_sem, true_and, and_true, ↓reduceIte, Nat.reduceEqDiff, Nat.reduceAdd, Bool.not_true, Bool.not_false, List.getElem?_cons_zero, List.getElem?_cons_succ, decide_true, decide_false, Bool.false_eq_true]
      rfl
    intro v3 h3 w3 f3
    have p3 := p1.new f3 (by simp)
    have j3 : loadV h3 false 1 (.ptr t 0 3) = some wv := ld0 p3.obj rfl
    simp only [go_sem, true_and, and_true, ↓reduceIte, Nat.reduceEqDiff, Nat.reduceAdd, Bool.not_true, Bool.not_false, List.getElem?_cons_zero, List.getElem?_cons_succ, decide_true, decide_false, Bool.false_eq_true, a0, j3]
    refine clone81 (l := T.way) p3.way.read (by omega) _ ?_
    intro v2 h2 w2
    have p2 := p3.new w2.1 (by simp)
    have k2 : loadV h2 false 1 (.ptr t 0 2) = some (.int .i64 (T.next + 1)) := ld0 p2.obj rfl
    have k3 : loadV h2 false 1 (.ptr t 0 3) = some wv := ld0 p2.obj rfl
    have k4 : loadV h2 false 1 (.ptr t 0 4) = some (.lst (lb b :: q.map lb)) := ld0 p2.obj rfl
    simp only [go_sem, true_and, and_true, ↓reduceIte, Nat.reduceEqDiff, Nat.reduceAdd, Bool.not_true, Bool.not_false, List.getElem?_cons_zero, List.getElem?_cons_succ, decide_true, decide_false, Bool.false_eq_true, a0, k2, k3, k4, ia0, sc, len1]
    obtain ⟨f2, S2, r2, s2⟩ := w2
    refine go_appendR (ys := [sentV (T.next + 1, b, 0)]) r2 ?_ ?_ ?_ ?_ rfl ?_
    · simp only [go_sem, true_and, and_true, ↓reduceIte, Nat.reduceEqDiff, Nat.reduceAdd, Bool.not_true, Bool.not_false, List.getElem?_cons_zero, List.getElem?_cons_succ, decide_true, decide_false, Bool.false_eq_true]
    · simp only [go_sem, true_and, and_true, ↓reduceIte, Nat.reduceEqDiff, Nat.reduceAdd, Bool.not_true, Bool.not_false, List.getElem?_cons_zero, List.getElem?_cons_succ, decide_true, decide_false, Bool.false_eq_true]
      exact (w3.fr f2 (by simp)).read
    · simp; omega
    · simp; omega
    intro S4 v4 h4 w4 f4 s4
    simp only [go_sem, true_and, and_true, ↓reduceIte, Nat.reduceEqDiff, Nat.reduceAdd, Bool.not_true, Bool.not_false, List.getElem?_cons_zero, List.getElem?_cons_succ, decide_true, decide_false, Bool.false_eq_true]
    refine frz_row w4 ?_
    intro h5 f5 n5
    refine tail h5 _ ?_ ?_ ?_ ?_
    · have f12 : Fr [] h1 h2 := f3.trans f2 (by simp)
      have f14 : Fr [] h1 h4 := f12.trans f4 (fun k hk => .inr (Nat.le_trans f3.next (s2 k hk)))
      refine f14.trans f5 (fun k hk => .inr ?_)
      rcases s4 k hk with g | g
      · exact Nat.le_trans f3.next (s2 k g)
      · exact Nat.le_trans f12.next g
    · simp only [go_sem, true_and, and_true, ↓reduceIte, Nat.reduceEqDiff, Nat.reduceAdd, Bool.not_true, Bool.not_false, List.getElem?_cons_zero, List.getElem?_cons_succ, decide_true, decide_false, Bool.false_eq_true, a0]
    · simp only [go_sem, true_and, and_true, ↓reduceIte, Nat.reduceEqDiff, Nat.reduceAdd, Bool.not_true, Bool.not_false, List.getElem?_cons_zero, List.getElem?_cons_succ, decide_true, decide_false, Bool.false_eq_true, a0]
    · simp only [go_sem, true_and, and_true, ↓reduceIte, Nat.reduceEqDiff, Nat.reduceAdd, Bool.not_true, Bool.not_false, List.getElem?_cons_zero, List.getElem?_cons_succ, decide_true, decide_false, Bool.false_eq_true, hmap]

theorem slide_spec (hG : Nibs G) {t : Nat} {T : Tn} {S : List Nat} (pT : TunR h t T S) (B : SlB T) (R : V → Heap → Prop)
    (hR : ∀ h' S', TunR h' t T.slide S' → Up h h' S S' → R (.tup []) h') : Calls0 Tryd.prog G 76 [.ptr t 0 0] h R := by
  refine fn_walk mixed fn76uis [66, 96] rfl ?_
  simp only [go_sem, true_and, and_true, ↓reduceIte, Nat.reduceEqDiff, Nat.reduceAdd, Bool.not_true, Bool.not_false, List.getElem?_cons_zero, List.getElem?_cons_succ, decide_true, decide_false, Bool.false_eq_true, fn76]
  refine w_loop (fun a h' n => a 0 = .ptr t 0 0 ∧ ∃ T' S', TunR h' t T' S' ∧ Up h h' S S' ∧ SlB T' ∧ T'.queue.length = n ∧ T'.slide = T.slide) T.queue.length ?_ ?_
  · exact ⟨rfl, T, S, pT, Up.refl h S, B, rfl, rfl⟩
  · rintro a h1 n ⟨a0, T', S', p', u', B', hn, hs⟩
    have pp := p'
    obtain ⟨wv, qv, ev, ov, So, Sm, p, hS⟩ := pp
    have l4 : loadV h1 false 1 (.ptr t 0 4) = some qv := ld0 p.obj rfl
    have l3 : loadV h1 false 1 (.ptr t 0 3) = some wv := ld0 p.obj rfl
    have l2 : loadV h1 false 1 (.ptr t 0 2) = some (.int .i64 T'.next) := ld0 p.obj rfl
    have nq := p.queue.len
    have nw := p.way.len
    rw [List.length_map] at nq nw
    cases hq : T'.queue with
    | nil =>
      rw [hq] at nq
      have c0 : ¬ (([] : List (List UInt8)).length : Int) > 0 := by simp
      simp only [go_sem, true_and, and_true, ↓reduceIte, Nat.reduceEqDiff, Nat.reduceAdd, Bool.not_true, Bool.not_false, List.getElem?_cons_zero, List.getElem?_cons_succ, decide_true, decide_false, Bool.false_eq_true, fn76u4, fn76u1, a0, l4, nq, c0]
      have e : T'.slide = T' := by rw [Tn.slide, hq]; rfl
      refine hR h1 S' ?_ u'
      rw [← hs, e]
      exact p'
    | cons b q =>
      rw [hq] at nq hn
      have c0 : ((b :: q).length : Int) > 0 := by simp
      -- a round
      have round : T'.free → ∀ a : Tm, a 0 = .ptr t 0 0 → wpC (Calls0 Tryd.prog G) G [66, 96] fn76u3 (thenQ (fun a' h' => ∃ m, m < n ∧ (a' 0 = .ptr t 0 0 ∧ ∃ T' S', TunR h' t T' S' ∧ Up h h' S S' ∧ SlB T' ∧ T'.queue.length = m ∧ T'.slide = T.slide)) (blockQ 0 (postF R []))) a h1 := by
        intro fr a a0
        refine slide_round hG p' B' hq a a0 _ _ ?_
        intro h2 S2 a2 p2 u2 a20
        refine ⟨q.length, by simp at hn; omega, a20, _, S2, p2, u'.trans u2, B'.step hq, rfl, ?_⟩
        rw [← hs, Tn.slide, Tn.slide, hq]
        show _ = if T'.free then _ else _
        rw [if_pos fr]
        rfl
      -- the end
      have stop : ¬ T'.free → R (.tup []) h1 := by
        intro fr
        have e : T'.slide = T' := by
          rw [Tn.slide, hq]
          show (if T'.free then _ else _) = _
          rw [if_neg fr]
        refine hR h1 S' ?_ u'
        rw [← hs, e]
        exact p'
      cases hw : T'.way with
      | nil =>
        rw [hw] at nw
        have c1 : ((([] : List (Int × List UInt8 × Int)).length : Int) == 0) = true := rfl
        simp only [go_sem, true_and, and_true, ↓reduceIte, Nat.reduceEqDiff, Nat.reduceAdd, Bool.not_true, Bool.not_false, List.getElem?_cons_zero, List.getElem?_cons_succ, decide_true, decide_false, Bool.false_eq_true, fn76u4, fn76u1, a0, l4, l3, nq, nw, c0, c1]
        refine round (.inl hw) _ ?_
        simp only [go_sem, true_and, and_true, ↓reduceIte, Nat.reduceEqDiff, Nat.reduceAdd, Bool.not_true, Bool.not_false, List.getElem?_cons_zero, List.getElem?_cons_succ, decide_true, decide_false, Bool.false_eq_true, a0]
      | cons s w =>
        have hwv : wv = .lst (sentV s :: w.map sentV) := by
          rcases p.way with e | ⟨_, e⟩
          · rw [e, hw]; rfl
          · rw [hw] at e; cases e
        subst hwv
        clear nw
        have nw : (sentV s :: w.map sentV).length = w.length + 1 := by simp
        have c1 : (((w.length + 1 : Nat) : Int) == 0) = false := by simp only [beq_eq_false_iff_ne, ne_eq]; omega
        have bs := B'.w0 s (by rw [hw]; simp)
        have bn0 := B'.n0
        have bn1 := B'.n1
        have w1 : IntKind.i64.wrap (T'.next + 1) = T'.next + 1 := wrap64 (by omega) (by omega)
        have w2 : IntKind.i64.wrap (T'.next + 1 - s.1) = T'.next + 1 - s.1 := wrap64 (by omega) (by omega)
        have sc : (sentV s).cells = [.int .i64 s.1, lb s.2.1, .int .i64 s.2.2] := rfl
        have len3 : ([V.int .i64 s.1, lb s.2.1, .int .i64 s.2.2] : List V).length = 3 := rfl
        by_cases c2 : T'.next + 1 - s.1 < 16
        · simp only [go_sem, true_and, and_true, ↓reduceIte, Nat.reduceEqDiff, Nat.reduceAdd, Bool.not_true, Bool.not_false, List.getElem?_cons_zero, List.getElem?_cons_succ, decide_true, decide_false, Bool.false_eq_true, fn76u4, fn76u1, a0, l4, l3, l2, nq, nw, c0, c1, w1, w2, c2, ia0, sc, len3, List.drop_zero]
          refine round (.inr (by rw [hw]; exact c2)) _ ?_
          simp only [go_sem, true_and, and_true, ↓reduceIte, Nat.reduceEqDiff, Nat.reduceAdd, Bool.not_true, Bool.not_false, List.getElem?_cons_zero, List.getElem?_cons_succ, decide_true, decide_false, Bool.false_eq_true, a0]
        · simp only [go_sem, true_and, and_true, ↓reduceIte, Nat.reduceEqDiff, Nat.reduceAdd, Bool.not_true, Bool.not_false, List.getElem?_cons_zero, List.getElem?_cons_succ, decide_true, decide_false, Bool.false_eq_true, fn76u4, fn76u1, a0, l4, l3, l2, nq, nw, c0, c1, w1, w2, c2, ia0, sc, len3, List.drop_zero]
          exact stop (fun hh => by
            rcases hh with hh | hh
            · rw [hw] at hh; cases hh
            · rw [hw] at hh; exact c2 hh)

end Go.Am

/- tunnel: Send. -/
namespace Go.Am
open Go.Proofs
variable {G : Nat → V} {h h' h'' : Heap}

def Tn.wait (T : Tn) (b : List UInt8) : Tn := { T with queue := T.queue ++ [b] }
def Tn.send (T : Tn) (b : List UInt8) : Tn × Int :=
  if T.up = false then (T, 121) else if (b.length : Int) > 512 then (T, 4) else if T.room < 1 then (T, 7) else ((T.wait b).slide, 0)

theorem send_spec (hG : Nibs G) {t : Nat} {T : Tn} {S : List Nat} (pT : TunR h t T S) (hm : T.me > 0) (hw : T.waiting ≤ 10000) (bv : V) (b : List UInt8) (hb : Rs h 1 bv (b.map b8)) (hB : T.up = true → b.length ≤ 512 → 1 ≤ T.room → SlB (T.wait b)) (R : V → Heap → Prop)
    (hR : ∀ h' S', TunR h' t (T.send b).1 S' → Up h h' S S' → R (.int .i64 (T.send b).2) h') : Calls0 Tryd.prog G 50 [.ptr t 0 0, bv] h R := by
  have pp := pT
  obtain ⟨wv, qv, ev, ov, So, Sm, p, hS⟩ := pp
  refine fn_walk mixed fn50uis [33, 35] rfl ?_
  have l0 : loadV h false 1 (.ptr t 0 0) = some (.bool T.up) := ld0 p.obj rfl
  have l4 : loadV h false 1 (.ptr t 0 4) = some qv := ld0 p.obj rfl
  have hbl := hb.len
  rw [List.length_map] at hbl
  unfold Tn.send at hR
  simp only [go_sem, true_and, and_true, ↓reduceIte, Nat.reduceEqDiff, Nat.reduceAdd, Bool.not_true, Bool.not_false, List.getElem?_cons_zero, List.getElem?_cons_succ, decide_true, decide_false, Bool.false_eq_true, fn50]
  refine made_spec p _ ?_
  cases hu : T.up with
  | false =>
    rw [if_pos hu] at hR
    simp only [go_sem, true_and, and_true, ↓reduceIte, Nat.reduceEqDiff, Nat.reduceAdd, Bool.not_true, Bool.not_false, List.getElem?_cons_zero, List.getElem?_cons_succ, decide_true, decide_false, Bool.false_eq_true, hm, l0, hu]
    exact hR h S pT (Up.refl h S)
  | true =>
    rw [if_neg (by rw [hu]; simp)] at hR
    by_cases c1 : (b.length : Int) > 512
    · rw [if_pos c1] at hR
      simp only [go_sem, true_and, and_true, ↓reduceIte, Nat.reduceEqDiff, Nat.reduceAdd, Bool.not_true, Bool.not_false, List.getElem?_cons_zero, List.getElem?_cons_succ, decide_true, decide_false, Bool.false_eq_true, hm, l0, hu, hbl, c1]
      exact hR h S pT (Up.refl h S)
    · rw [if_neg c1] at hR
      simp only [go_sem, true_and, and_true, ↓reduceIte, Nat.reduceEqDiff, Nat.reduceAdd, Bool.not_true, Bool.not_false, List.getElem?_cons_zero, List.getElem?_cons_succ, decide_true, decide_false, Bool.false_eq_true, hm, l0, hu, hbl, c1]
      refine room_spec p hm (by omega) _ ?_
      by_cases c2 : T.room < 1
      · rw [if_pos c2] at hR
        simp only [go_sem, true_and, and_true, ↓reduceIte, Nat.reduceEqDiff, Nat.reduceAdd, Bool.not_true, Bool.not_false, List.getElem?_cons_zero, List.getElem?_cons_succ, decide_true, decide_false, Bool.false_eq_true, c2]
        exact hR h S pT (Up.refl h S)
      · rw [if_neg c2] at hR
        have B := hB hu (by omega) (by omega)
        have wl := B.wl
        have wl : T.way.length + (T.queue ++ [b]).length ≤ 100000 := wl
        simp only [List.length_append, List.length_cons, List.length_nil] at wl
        simp only [go_sem, true_and, and_true, ↓reduceIte, Nat.reduceEqDiff, Nat.reduceAdd, Bool.not_true, Bool.not_false, List.getElem?_cons_zero, List.getElem?_cons_succ, decide_true, decide_false, Bool.false_eq_true, c2, fn50u1, l4]
        refine clone56 (l := T.queue) p.queue.read (by omega) _ ?_
        intro v1 h1 w1
        have p1 := p.new w1.1 (by simp)
        simp only [go_sem, true_and, and_true, ↓reduceIte, Nat.reduceEqDiff, Nat.reduceAdd, Bool.not_true, Bool.not_false, List.getElem?_cons_zero, List.getElem?_cons_succ, decide_true, decide_false, Bool.false_eq_true]
        refine go_appendN (ys := b.map b8) ?_ ?_ ?_ ?_ ?_ ?_
        · simp only [go_sem, true_and, and_true, ↓reduceIte, Nat.reduceEqDiff, Nat.reduceAdd, Bool.not_true, Bool.not_false, List.getElem?_cons_zero, List.getElem?_cons_succ, decide_true, decide_false, Bool.false_eq_true]
        · simp only [go_sem, true_and, and_true, ↓reduceIte, Nat.reduceEqDiff, Nat.reduceAdd, Bool.not_true, Bool.not_false, List.getElem?_cons_zero, List.getElem?_cons_succ, decide_true, decide_false, Bool.false_eq_true]
          exact (hb.new w1.1 (by simp)).read
        · simp; omega
        · simp; omega
        · exact szOk_b8 _
        intro v2 h2 w2
        simp only [go_sem, true_and, and_true, ↓reduceIte, Nat.reduceEqDiff, Nat.reduceAdd, Bool.not_true, Bool.not_false, List.getElem?_cons_zero, List.getElem?_cons_succ, decide_true, decide_false, Bool.false_eq_true]
        refine frz_fresh w2 ?_
        intro h3 f3
        simp only [go_sem, true_and, and_true, ↓reduceIte, Nat.reduceEqDiff, Nat.reduceAdd, Bool.not_true, Bool.not_false, List.getElem?_cons_zero, List.getElem?_cons_succ, decide_true, decide_false, Bool.false_eq_true]
        refine go_bslice (xs := [lb b]) rfl rfl (by omega) ?_ rfl ?_
        · simp only [go_sem, true_and, and_true, ↓reduceIte, Nat.reduceEqDiff, Nat.reduceAdd, Bool.not_true, Bool.not_false, List.getElem?_cons_zero, List.getElem?_cons_succ, decide_true, decide_false, Bool.false_eq_true]
          rfl
        intro v4 h4 w4 f4
        have f14 : Fr [] h1 h4 := f3.trans f4 (by simp)
        have p4 := p1.new f14 (by simp)
        obtain ⟨f1, S1, r1, s1⟩ := w1
        have r4 := r1.fr f14 (by simp)
        simp only [go_sem, true_and, and_true, ↓reduceIte, Nat.reduceEqDiff, Nat.reduceAdd, Bool.not_true, Bool.not_false, List.getElem?_cons_zero, List.getElem?_cons_succ, decide_true, decide_false, Bool.false_eq_true]
        refine go_appendR (ys := [lb b]) r4 ?_ ?_ ?_ ?_ rfl ?_
        · simp only [go_sem, true_and, and_true, ↓reduceIte, Nat.reduceEqDiff, Nat.reduceAdd, Bool.not_true, Bool.not_false, List.getElem?_cons_zero, List.getElem?_cons_succ, decide_true, decide_false, Bool.false_eq_true]
        · simp only [go_sem, true_and, and_true, ↓reduceIte, Nat.reduceEqDiff, Nat.reduceAdd, Bool.not_true, Bool.not_false, List.getElem?_cons_zero, List.getElem?_cons_succ, decide_true, decide_false, Bool.false_eq_true]
          exact w4.read
        · simp; omega
        · simp; omega
        intro S5 v5 h5 w5 f5 s5
        simp only [go_sem, true_and, and_true, ↓reduceIte, Nat.reduceEqDiff, Nat.reduceAdd, Bool.not_true, Bool.not_false, List.getElem?_cons_zero, List.getElem?_cons_succ, decide_true, decide_false, Bool.false_eq_true]
        refine frz_row w5 ?_
        intro h6 f6 n6
        have f04 : Fr [] h h4 := f1.trans f14 (by simp)
        have s1' : ∀ k ∈ S1, h.next ≤ k := s1
        have f05 : Fr [] h h5 := f04.trans f5 (fun k hk => .inr (s1 k hk))
        have f06 : Fr [] h h6 := f05.trans f6 (fun k hk => .inr (by
          rcases s5 k hk with g | g
          · exact s1 k g
          · exact Nat.le_trans f04.next g))
        have p6 := p.new f06 (by simp)
        have hmap : T.queue.map lb ++ [lb b] = (T.queue ++ [b]).map lb := by simp
        simp only [go_sem, true_and, and_true, ↓reduceIte, Nat.reduceEqDiff, Nat.reduceAdd, Bool.not_true, Bool.not_false, List.getElem?_cons_zero, List.getElem?_cons_succ, decide_true, decide_false, Bool.false_eq_true, hmap]
        refine go_store0 (v := .lst ((T.queue ++ [b]).map lb)) (sub := 4) p6.obj rfl rfl rfl (by simp [tunC]) ?_
        intro h7 f7 n7 e7
        simp only [tunC, List.set_cons_zero, List.set_cons_succ] at e7
        have p7 := p6.put (T' := T.wait b) f7 e7 p6.way (.inl rfl) rfl rfl rfl
        simp only [go_sem, true_and, and_true, ↓reduceIte, Nat.reduceEqDiff, Nat.reduceAdd, Bool.not_true, Bool.not_false, List.getElem?_cons_zero, List.getElem?_cons_succ, decide_true, decide_false, Bool.false_eq_true]
        refine slide_spec hG ⟨_, _, _, _, _, _, p7, rfl⟩ B _ ?_
        intro h8 S8 q8 u8
        simp only [go_sem, true_and, and_true, ↓reduceIte, Nat.reduceEqDiff, Nat.reduceAdd, Bool.not_true, Bool.not_false, List.getElem?_cons_zero, List.getElem?_cons_succ, decide_true, decide_false, Bool.false_eq_true]
        refine hR h8 S8 q8 ((show Up h h7 S (t :: (So ++ Sm)) from ?_).trans u8)
        rw [hS]
        exact ⟨(f06.mono (by simp)).trans f7 (by simp), fun _ hk => .inl hk⟩

end Go.Am
