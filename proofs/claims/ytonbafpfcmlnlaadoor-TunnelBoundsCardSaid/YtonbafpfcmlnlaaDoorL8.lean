/- Parts of the proof, one after another; what each part shows stands at its head. No conditions. -/
import Derived.Test.YtonbafpfcmlnlaaDoorL7
set_option linter.all false

/- tunnel: ack: what was acknowledged goes. -/
namespace Go.Am
open Go.Proofs
variable {G : Nat → V} {h h' h'' : Heap} {fz : List Nat} {a : Tm} {K : Tm → Heap → Prop}

/-- &v[n] of a slice of an object. -/
theorem go_iaddrO {i : Ins} {x y : Opd} {sz n o len room ty : Nat} {k : IntKind} {xs : List V} (e : h.obj o = some (.arr ty sz xs)) (hx : x.ev G a = .slc o 0 len room) (hy : y.ev G a = .int k (n : Int)) (h1 : n < len) (h2 : n < xs.length) (hk : putD G fz i K a (.ptr o n 0) h) :
    goO G fz i K a (stepI G a h (.iaddr sz x y)) := by
  have : stepI G a h (.iaddr sz x y) = some (.ptr o n 0, h) := by
    simp only [stepI, hx, hy, idx_nat, e]
    rw [if_pos ⟨trivial, h1, by omega⟩]
    simp
  rw [this]
  exact hk

theorem splice_all : ∀ (cs ds pre : List V), cs.length = ds.length → splice (pre ++ cs) pre.length ds = pre ++ ds := by
  intro cs ds
  induction ds generalizing cs with
  | nil => intro pre hl; simp at hl; subst hl; rfl
  | cons v vs ih =>
    intro pre hl
    cases cs with
    | nil => simp at hl
    | cons c cs =>
      simp only [splice]
      have := ih cs (pre ++ [v]) (by simpa using hl)
      simp only [List.length_append, List.length_cons, List.length_nil, List.append_assoc, List.cons_append, List.nil_append] at this
      rw [show (pre ++ c :: cs).set pre.length v = pre ++ v :: cs from by simp]
      exact this

/-- An element of a row, a structure, is written over. -/
theorem go_storeE {i : Ins} {x y : Opd} {o n k ty sz : Nat} {xs cs ds : List V} (e : h.obj o = some (.arr ty sz xs)) (hx : x.ev G a = .ptr o k 0) (hy : y.ev G a = .agg ds) (he : xs[k]? = some (.agg cs)) (hn : ds.length = n) (hl : cs.length = n) (h1 : ∀ d ∈ ds, d.one = true)
    (hk : ∀ h', Fr [o] h h' → h'.next = h.next → h'.obj o = some (.arr ty sz (xs.set k (.agg ds))) → putD G fz i K a .undef h') : goO G fz i K a (stepI G a h (.store n x y)) := by
  have hs : (V.agg ds).sane = true := by simp only [V.sane, List.all_eq_true]; exact h1
  have h0 := splice_all cs ds [] (by omega)
  simp only [List.nil_append, List.length_nil] at h0
  have : stepI G a h (.store n x y) = some (.undef, h.set o (.arr ty sz (xs.set k (.agg ds)))) := by
    simp only [stepI, hx, hy, storeV, e, he]
    rw [if_pos ⟨by simp [V.cells, hn], by simp [V.cells]; omega, hs⟩]
    simp [setCells, V.cells, h0]
  rw [this]
  exact hk _ (Fr.set h o _) rfl (set_new e)

/-- Which frames are acknowledged. -/
def acked (ack bits : Int) (s : Int × List UInt8 × Int) : Bool :=
  decide (s.1 - ack - 1 < 0) || (decide (s.1 - ack - 1 < 16) && (IntKind.i64.wrap (BitVec.ofInt 64 (bits.fdiv (2 ^ min (s.1 - ack - 1).toNat 64)) &&& BitVec.ofInt 64 1).toNat == 1))

theorem acked_spec (f : Fm) (fb : V) (fo : Nat) (hf : h.obj fo = some (.arr 134 7 [f.v fb])) (s : Int × List UInt8 × Int) (hs : 0 ≤ s.1 ∧ s.1 ≤ 1099511627776) (ha : 0 ≤ f.ack ∧ f.ack ≤ 1099511627776) (R : V → Heap → Prop) (hR : ∀ h', Fr [] h h' → R (.bool (acked f.ack f.bits s)) h') : Calls0 Tryd.prog G 115 [sentV s, .ptr fo 0 0] h R := by
  refine fn_walk mixed fn115uis [] rfl ?_
  simp only [go_sem, true_and, and_true, ↓reduceIte, Nat.reduceEqDiff, Nat.reduceAdd, Bool.not_true, Bool.not_false, List.getElem?_cons_zero, List.getElem?_cons_succ, decide_true, decide_false, Bool.false_eq_true, fn115]
  refine go_box (v := sentV s) rfl rfl rfl ?_
  intro h1 f1 e1
  have ef := f1.at hf (by simp)
  have l0 : loadV h1 false 1 (.ptr h.next 0 0) = some (.int .i64 s.1) := ld0 e1 rfl
  have l4 : loadV h1 false 1 (.ptr fo 0 4) = some (.int .i64 f.ack) := ld0 ef rfl
  have l5 : loadV h1 false 1 (.ptr fo 0 5) = some (.int .i64 f.bits) := ld0 ef rfl
  have w1 : IntKind.i64.wrap (s.1 - f.ack) = s.1 - f.ack := wrap64 (by omega) (by omega)
  have w2 : IntKind.i64.wrap (s.1 - f.ack - 1) = s.1 - f.ack - 1 := wrap64 (by omega) (by omega)
  have := hR h1 f1
  unfold acked at this
  by_cases c1 : s.1 - f.ack - 1 < 0
  · simp only [go_sem, true_and, and_true, ↓reduceIte, Nat.reduceEqDiff, Nat.reduceAdd, Bool.not_true, Bool.not_false, List.getElem?_cons_zero, List.getElem?_cons_succ, decide_true, decide_false, Bool.false_eq_true, l0, l4, l5, w1, w2, c1]
    simpa [c1] using this
  · by_cases c2 : s.1 - f.ack - 1 < 16
    · have hb : IntKind.i64.bits = 64 := rfl
      simp only [go_sem, true_and, and_true, ↓reduceIte, Nat.reduceEqDiff, Nat.reduceAdd, Bool.not_true, Bool.not_false, List.getElem?_cons_zero, List.getElem?_cons_succ, decide_true, decide_false, Bool.false_eq_true, l0, l4, l5, w1, w2, c1, c2, hb]
      simp only [c1, c2, decide_false, decide_true, Bool.false_or, Bool.true_and] at this
      exact this
    · simp only [go_sem, true_and, and_true, ↓reduceIte, Nat.reduceEqDiff, Nat.reduceAdd, Bool.not_true, Bool.not_false, List.getElem?_cons_zero, List.getElem?_cons_succ, decide_true, decide_false, Bool.false_eq_true, l0, l4, l5, w1, w2, c1, c2]
      simpa [c1, c2] using this

/-- What is left of a row, frozen. -/
def FrzTo (h0 h' : Heap) (S : List Nat) (v : V) (xs : List V) : Prop := ∃ h'', freezeV h' v = some (.lst xs, h'') ∧ Fr S h0 h''
theorem frz_to {d : Nat} {S : List Nat} {v : V} {xs : List V} (w : FrzTo h h' S v xs) (hk : ∀ h'', Fr S h h'' → K (upd a d (.lst xs)) h'') : frzD G K a d [] v h' := by
  obtain ⟨h'', e, f⟩ := w
  simp only [frzD, e]
  exact ⟨trivial, hk h'' f⟩

/-- What a test answers, whatever is made beside. -/
def Tests (G : Nat → V) (g : Nat) (caps : List V) (l : List (Int × List UInt8 × Int)) (pr : (Int × List UInt8 × Int) → Bool) (Ok : Heap → Prop) : Prop :=
  ∀ s ∈ l, ∀ h, Ok h → ∀ R : V → Heap → Prop, (∀ h', Fr [] h h' → R (.bool (pr s)) h') → Calls0 Tryd.prog G g (sentV s :: caps) h R

theorem index_spec {g : Nat} {caps : List V} {l : List (Int × List UInt8 × Int)} {pr : (Int × List UInt8 × Int) → Bool} {Ok : Heap → Prop} (ht : Tests G g caps l pr Ok) (hok : ∀ h', Fr [] h h' → Ok h') (v : V) (hv : Rs h 3 v (l.map sentV)) (hl : l.length ≤ 1000000) (R : V → Heap → Prop)
    (hnone : (∀ s ∈ l, pr s = false) → ∀ h', Fr [] h h' → R (.int .i64 (-1)) h')
    (hsome : ∀ i s, l[i]? = some s → pr s = true → (∀ x ∈ l.take i, pr x = false) → ∀ h', Fr [] h h' → R (.int .i64 (i : Int)) h') : Calls0 Tryd.prog G 123 [v, .fn g caps] h R := by
  refine fn_walk mixed fn123uis [] rfl ?_
  have hn := hv.len
  rw [List.length_map] at hn
  simp only [go_sem, true_and, and_true, ↓reduceIte, Nat.reduceEqDiff, Nat.reduceAdd, Bool.not_true, Bool.not_false, List.getElem?_cons_zero, List.getElem?_cons_succ, decide_true, decide_false, Bool.false_eq_true, fn123, hn]
  refine w_loop (fun a h' n => n ≤ l.length ∧ a 0 = v ∧ a 1 = .fn g caps ∧ a 7 = .int .i64 l.length ∧ a 8 = .int .i64 ((l.length - n : Nat) : Int) ∧ (∀ x ∈ l.take (l.length - n), pr x = false) ∧ Fr [] h h') l.length ?_ ?_
  · refine ⟨Nat.le_refl _, rfl, rfl, rfl, ?_, ?_, Fr.refl _ _⟩
    · simp only [go_sem, true_and, and_true, ↓reduceIte, Nat.reduceEqDiff, Nat.reduceAdd, Bool.not_true, Bool.not_false, List.getElem?_cons_zero, List.getElem?_cons_succ, decide_true, decide_false, Bool.false_eq_true, Nat.sub_self]; rfl
    · simp
  · rintro a h1 n ⟨g1, a0, a1, a7, a8, g2, f1⟩
    cases n with
    | zero =>
      have c : ¬ ((l.length - 0 : Nat) : Int) < (l.length : Int) := by omega
      simp only [go_sem, true_and, and_true, ↓reduceIte, Nat.reduceEqDiff, Nat.reduceAdd, Bool.not_true, Bool.not_false, List.getElem?_cons_zero, List.getElem?_cons_succ, decide_true, decide_false, Bool.false_eq_true, fn123u3, fn123u4, a7, a8, c]
      refine hnone (fun s hs => g2 s ?_) h1 f1
      rw [Nat.sub_zero, List.take_length]
      exact hs
    | succ m =>
      have c : ((l.length - (m + 1) : Nat) : Int) < (l.length : Int) := by omega
      have hlt : l.length - (m + 1) < l.length := by omega
      have wi : IntKind.i64.wrap (((l.length - (m + 1) : Nat) : Int) + 1) = ((l.length - m : Nat) : Int) := by rw [wrap64 (by omega) (by omega)]; omega
      simp only [go_sem, true_and, and_true, ↓reduceIte, Nat.reduceEqDiff, Nat.reduceAdd, Bool.not_true, Bool.not_false, List.getElem?_cons_zero, List.getElem?_cons_succ, decide_true, decide_false, Bool.false_eq_true, fn123u3, fn123u2, a0, a1, a7, a8, c]
      refine go_iaddr (k := .i64) (n := l.length - (m + 1)) (e := sentV l[l.length - (m + 1)]) (hv.new f1 (by simp)) ?_ ?_ ?_ ?_
      · simp only [go_sem, true_and, and_true, ↓reduceIte, Nat.reduceEqDiff, Nat.reduceAdd, Bool.not_true, Bool.not_false, List.getElem?_cons_zero, List.getElem?_cons_succ, decide_true, decide_false, Bool.false_eq_true, a0]
      · simp only [go_sem, true_and, and_true, ↓reduceIte, Nat.reduceEqDiff, Nat.reduceAdd, Bool.not_true, Bool.not_false, List.getElem?_cons_zero, List.getElem?_cons_succ, decide_true, decide_false, Bool.false_eq_true, a8]
      · simp [hlt]
      intro p1 q1
      have m1 : loadV h1 true 3 p1 = some (sentV l[l.length - (m + 1)]) := q1.loadA rfl
      simp only [go_sem, true_and, and_true, ↓reduceIte, Nat.reduceEqDiff, Nat.reduceAdd, Bool.not_true, Bool.not_false, List.getElem?_cons_zero, List.getElem?_cons_succ, decide_true, decide_false, Bool.false_eq_true, m1, a1, List.cons_append, List.nil_append]
      refine ht _ (List.getElem_mem hlt) h1 (hok h1 f1) _ ?_
      intro h2 f2
      simp only [go_sem, true_and, and_true, ↓reduceIte, Nat.reduceEqDiff, Nat.reduceAdd, Bool.not_true, Bool.not_false, List.getElem?_cons_zero, List.getElem?_cons_succ, decide_true, decide_false, Bool.false_eq_true]
      have f02 := f1.trans f2 (by simp)
      cases hp : pr l[l.length - (m + 1)] with
      | true =>
        simp only [go_sem, true_and, and_true, ↓reduceIte, Nat.reduceEqDiff, Nat.reduceAdd, Bool.not_true, Bool.not_false, List.getElem?_cons_zero, List.getElem?_cons_succ, decide_true, decide_false, Bool.false_eq_true, a8]
        exact hsome _ _ (by simp [hlt]) hp g2 h2 f02
      | false =>
        simp only [go_sem, true_and, and_true, ↓reduceIte, Nat.reduceEqDiff, Nat.reduceAdd, Bool.not_true, Bool.not_false, List.getElem?_cons_zero, List.getElem?_cons_succ, decide_true, decide_false, Bool.false_eq_true, fn123u1, a0, a1, a7, a8, wi]
        refine ⟨m, by omega, by omega, rfl, fun x hx => ?_, f02⟩
        have ht : l.take (l.length - m) = l.take (l.length - (m + 1)) ++ [l[l.length - (m + 1)]] := by
          rw [show l.length - m = l.length - (m + 1) + 1 from by omega, List.take_add_one, List.getElem?_eq_getElem hlt]
          rfl
        rw [ht] at hx
        simp only [List.mem_append, List.mem_singleton] at hx
        rcases hx with hx | rfl
        · exact g2 x hx
        · exact hp

/-- x[l:n] of a slice of an object. -/
theorem go_sliceO {i : Ins} {x : Opd} {lo hi : Option Opd} {sz l n o off len room ty : Nat} {xs : List V} (e : h.obj o = some (.arr ty sz xs)) (hx : x.ev G a = .slc o off len room) (hl : ((lo.map (·.ev G a)).map idx).getD (some 0) = some l) (hh : ((hi.map (·.ev G a)).map idx).getD (some len) = some n)
    (h1 : l ≤ n) (h2 : n ≤ room) (h3 : room ≠ l) (hk : putD G fz i K a (.slc o (off + l) (n - l) (room - l)) h) : goO G fz i K a (stepI G a h (.slice sz x lo hi none)) := by
  have : stepI G a h (.slice sz x lo hi none) = some (.slc o (off + l) (n - l) (room - l), h) := by
    simp only [stepI, hx, Option.map_none, sliceV, hl, hh, Option.getD_none, Option.isSome_none, e]
    rw [if_pos ⟨h1, h2, Nat.le_refl _, trivial⟩, if_neg h3]
    simp
  rw [this]
  exact hk

theorem go_clear {i : Ins} {x : Opd} {o off len room ty sz : Nat} {z : V} {xs : List V} (e : h.obj o = some (.arr ty sz xs)) (hx : x.ev G a = .slc o off len room) (h0 : 0 < len) (h1 : off + len ≤ xs.length) (hz : z.cells.length = sz)
    (hk : ∀ h', Fr [o] h h' → h'.next = h.next → h'.obj o = some (.arr ty sz (xs.take off ++ List.replicate len z ++ xs.drop (off + len))) → putD G fz i K a (.tup []) h') : goO G fz i K a (stepI G a h (.clear z x)) := by
  cases len with
  | zero => omega
  | succ len =>
    have : stepI G a h (.clear z x) = some (.tup [], h.set o (.arr ty sz (xs.take off ++ List.replicate (len + 1) z ++ xs.drop (off + (len + 1))))) := by
      simp only [stepI, hx, e]
      rw [if_pos ⟨h0, h1, hz⟩]
    rw [this]
    exact hk _ (Fr.set h o _) rfl (set_new e)

theorem filter_take {l : List (Int × List UInt8 × Int)} {p : (Int × List UInt8 × Int) → Bool} {j : Nat} (hj : j < l.length) : (l.take (j + 1)).filter p = (l.take j).filter p ++ (if p l[j] then [l[j]] else []) := by
  rw [List.take_add_one, List.getElem?_eq_getElem hj, List.filter_append]
  cases hp : p l[j] <;> simp [hp]

set_option maxHeartbeats 1000000 in
theorem delete_spec {g : Nat} {caps : List V} {l : List (Int × List UInt8 × Int)} {pr : (Int × List UInt8 × Int) → Bool} {Ok : Heap → Prop} {S : List Nat} {v : V} (hv : Row h S 140 3 (l.map sentV) v) (ht : Tests G g caps l pr Ok) (hok : ∀ h', Fr S h h' → Ok h') (hl : l.length ≤ 1000000) (R : V → Heap → Prop)
    (hR : ∀ v' h', FrzTo h h' S v' ((l.filter fun s => !pr s).map sentV) → R v' h') : Calls0 Tryd.prog G 114 [v, .fn g caps] h R := by
  refine fn_walk mixed fn114uis [] rfl ?_
  simp only [go_sem, true_and, and_true, ↓reduceIte, Nat.reduceEqDiff, Nat.reduceAdd, Bool.not_true, Bool.not_false, List.getElem?_cons_zero, List.getElem?_cons_succ, decide_true, decide_false, Bool.false_eq_true, fn114]
  refine index_spec ht (fun h' f => hok h' (f.mono (by simp))) v (hv.rs (sent_cells3 l)) hl _ ?_ ?_
  · intro hnone h1 f1
    have c : ((-1 : Int) == -1) = true := rfl
    simp only [go_sem, true_and, and_true, ↓reduceIte, Nat.reduceEqDiff, Nat.reduceAdd, Bool.not_true, Bool.not_false, List.getElem?_cons_zero, List.getElem?_cons_succ, decide_true, decide_false, Bool.false_eq_true, c]
    have r1 := hv.new f1 (by simp)
    obtain ⟨h2, e2, f2, n2⟩ := r1.freeze
    refine hR v h1 ⟨h2, ?_, (f1.mono (by simp)).trans f2 (fun k hk => .inl hk)⟩
    rw [e2]
    congr 3
    rw [List.filter_eq_self.2 (fun s hs => by rw [hnone s hs]; rfl)]
  · intro i0 s0 hs0 hp0 hb0 h1 f1
    have hi0 : i0 < l.length := (List.getElem?_eq_some_iff.1 hs0).1
    have c : ((i0 : Int) == -1) = false := by simp only [beq_eq_false_iff_ne, ne_eq]; omega
    have wi : IntKind.i64.wrap ((i0 : Int) + 1) = ((i0 + 1 : Nat) : Int) := by rw [wrap64 (by omega) (by omega)]; omega
    rcases hv with ⟨_, e, _⟩ | ⟨o, rfl, hvv, ho⟩
    · simp at e; subst e; simp at hi0
    have olt := Heap.lt_next ho
    subst hvv
    simp only [List.length_map] at ho ⊢
    have e1 := f1.at ho (by simp)
    simp only [go_sem, true_and, and_true, ↓reduceIte, Nat.reduceEqDiff, Nat.reduceAdd, Bool.not_true, Bool.not_false, List.getElem?_cons_zero, List.getElem?_cons_succ, decide_true, decide_false, Bool.false_eq_true, c, wi, fn114u5]
    refine w_loop (fun a h' m => ∃ j ys, j + m = l.length ∧ i0 < j ∧ a 0 = .slc o 0 l.length l.length ∧ a 1 = .fn g caps ∧ a 5 = .int .i64 (((l.take j).filter fun s => !pr s).length : Nat) ∧ a 6 = .int .i64 (j : Int) ∧ Fr [o] h h' ∧
      h'.obj o = some (.arr 140 3 ys) ∧ ys.length = l.length ∧ ys.take ((l.take j).filter fun s => !pr s).length = ((l.take j).filter fun s => !pr s).map sentV ∧ ys.drop j = (l.drop j).map sentV ∧ ∀ y ∈ ys, ∃ s, y = sentV s) (l.length - (i0 + 1)) ?_ ?_
    · have hk : ((l.take (i0 + 1)).filter fun s => !pr s) = l.take i0 := by
        rw [filter_take hi0]
        have : l[i0] = s0 := by rw [List.getElem?_eq_getElem hi0] at hs0; exact Option.some.inj hs0
        rw [this, hp0]
        simp only [Bool.not_true, Bool.false_eq_true, if_false, List.append_nil]
        exact List.filter_eq_self.2 (fun s hs => by rw [hb0 s hs]; rfl)
      refine ⟨i0 + 1, l.map sentV, by omega, by omega, rfl, rfl, ?_, rfl, f1.mono (by simp), e1, by simp, ?_, by rw [List.map_drop], fun y hy => by obtain ⟨s, _, e⟩ := List.mem_map.1 hy; exact ⟨s, e.symm⟩⟩
      · rw [hk]
        have : (l.take i0).length = i0 := by rw [List.length_take]; omega
        rw [this]
        rfl
      · rw [hk, List.map_take]
        have : (l.take i0).length = i0 := by rw [List.length_take]; omega
        rw [this]
    · rintro a h2 m ⟨j, ys, hj, hij, a0, a1, a5, a6, f2, e2, hy, hta, hdr, hall⟩
      cases m with
      | zero =>
        have ej : j = l.length := by omega
        subst ej
        have cl : ¬ (l.length : Int) < (l.length : Int) := by omega
        rw [List.take_length] at a5 hta
        have hkl : (l.filter fun s => !pr s).length < l.length := by
          have : (l.filter fun s => !pr s).length ≤ l.length := List.length_filter_le _ _
          rcases Nat.lt_or_ge (l.filter fun s => !pr s).length l.length with q | q
          · exact q
          · have := List.length_filter_eq_length_iff.1 (Nat.le_antisymm this q) s0 (List.mem_of_getElem? hs0)
            rw [hp0] at this; cases this
        generalize hk : (l.filter fun s => !pr s).length = k at *
        have ln : lenV (.slc o 0 l.length l.length) = some l.length := rfl
        simp only [go_sem, true_and, and_true, ↓reduceIte, Nat.reduceEqDiff, Nat.reduceAdd, Bool.not_true, Bool.not_false, List.getElem?_cons_zero, List.getElem?_cons_succ, decide_true, decide_false, Bool.false_eq_true, fn114u3, fn114u4, a0, a1, a5, a6, cl]
        refine go_sliceO (off := 0) (len := l.length) (room := l.length) (l := k) (n := l.length) e2 ?_ ?_ ?_ (by omega) (Nat.le_refl _) (by omega) ?_
        · simp only [go_sem, true_and, and_true, ↓reduceIte, Nat.reduceEqDiff, Nat.reduceAdd, Bool.not_true, Bool.not_false, List.getElem?_cons_zero, List.getElem?_cons_succ, decide_true, decide_false, Bool.false_eq_true, a0]
        · simp only [Option.map_some, go_sem, ↓reduceIte, Nat.reduceEqDiff, a5, idx_nat, Option.getD_some]
        · rfl
        simp only [go_sem, true_and, and_true, ↓reduceIte, Nat.reduceEqDiff, Nat.reduceAdd, Bool.not_true, Bool.not_false, List.getElem?_cons_zero, List.getElem?_cons_succ, decide_true, decide_false, Bool.false_eq_true]
        refine go_clear (off := 0 + k) (len := l.length - k) (room := l.length - k) e2 ?_ (by omega) (by omega) rfl ?_
        · simp only [go_sem, true_and, and_true, ↓reduceIte, Nat.reduceEqDiff, Nat.reduceAdd, Bool.not_true, Bool.not_false, List.getElem?_cons_zero, List.getElem?_cons_succ, decide_true, decide_false, Bool.false_eq_true]
        intro h3 f3 n3 e3
        simp only [go_sem, true_and, and_true, ↓reduceIte, Nat.reduceEqDiff, Nat.reduceAdd, Bool.not_true, Bool.not_false, List.getElem?_cons_zero, List.getElem?_cons_succ, decide_true, decide_false, Bool.false_eq_true, a0, a5]
        refine go_sliceO (off := 0) (len := l.length) (room := l.length) (l := 0) (n := k) e3 ?_ ?_ ?_ (by omega) (by omega) (by omega) ?_
        · simp only [go_sem, true_and, and_true, ↓reduceIte, Nat.reduceEqDiff, Nat.reduceAdd, Bool.not_true, Bool.not_false, List.getElem?_cons_zero, List.getElem?_cons_succ, decide_true, decide_false, Bool.false_eq_true, a0]
        · rfl
        · simp only [Option.map_some, go_sem, ↓reduceIte, Nat.reduceEqDiff, a5, idx_nat, Option.getD_some]
        simp only [go_sem, true_and, and_true, ↓reduceIte, Nat.reduceEqDiff, Nat.reduceAdd, Bool.not_true, Bool.not_false, List.getElem?_cons_zero, List.getElem?_cons_succ, decide_true, decide_false, Bool.false_eq_true]
        refine hR _ h3 ⟨h3.kill o, ?_, (f2.trans f3 (by simp)).trans (Fr.kill h3 o) (by simp)⟩
        simp only [freezeV, e3, Nat.sub_zero, Nat.add_zero, Nat.zero_add]
        rw [if_pos (by simp; omega)]
        congr 3
        rw [List.drop_zero, List.append_assoc, List.take_append_of_le_length (by rw [List.length_take]; omega), List.take_take, Nat.min_self]
        exact hta
      | succ m =>
        have hjl : j < l.length := by omega
        have cl : (j : Int) < (l.length : Int) := by omega
        have hyj : ys[j]? = some (sentV l[j]) := by
          have : (ys.drop j)[0]? = ((l.drop j).map sentV)[0]? := by rw [hdr]
          simpa [List.getElem?_drop, hjl] using this
        have hjy : j < ys.length := by omega
        have wj : IntKind.i64.wrap ((j : Int) + 1) = ((j + 1 : Nat) : Int) := by rw [wrap64 (by omega) (by omega)]; omega
        have hkj : ((l.take j).filter fun s => !pr s).length ≤ j := by
          have := List.length_filter_le (fun s => !pr s) (l.take j)
          rw [List.length_take] at this
          omega
        have hft := filter_take (p := fun s => !pr s) hjl
        simp only [go_sem, true_and, and_true, ↓reduceIte, Nat.reduceEqDiff, Nat.reduceAdd, Bool.not_true, Bool.not_false, List.getElem?_cons_zero, List.getElem?_cons_succ, decide_true, decide_false, Bool.false_eq_true, fn114u3, fn114u2, a0, a1, a5, a6, cl]
        refine go_iaddrO (len := l.length) (room := l.length) (k := .i64) (n := j) e2 ?_ ?_ hjl hjy ?_
        · simp only [go_sem, true_and, and_true, ↓reduceIte, Nat.reduceEqDiff, Nat.reduceAdd, Bool.not_true, Bool.not_false, List.getElem?_cons_zero, List.getElem?_cons_succ, decide_true, decide_false, Bool.false_eq_true, a0]
        · simp only [go_sem, true_and, and_true, ↓reduceIte, Nat.reduceEqDiff, Nat.reduceAdd, Bool.not_true, Bool.not_false, List.getElem?_cons_zero, List.getElem?_cons_succ, decide_true, decide_false, Bool.false_eq_true, a6]
        have l2 : loadV h2 true 3 (.ptr o j 0) = some (sentV l[j]) := by simp [loadV, e2, hyj, sentV, V.cells]
        simp only [go_sem, true_and, and_true, ↓reduceIte, Nat.reduceEqDiff, Nat.reduceAdd, Bool.not_true, Bool.not_false, List.getElem?_cons_zero, List.getElem?_cons_succ, decide_true, decide_false, Bool.false_eq_true, l2]
        refine go_box (v := .agg [.int .i64 0, .nil, .int .i64 0]) rfl rfl rfl ?_
        intro h3 f3 e3
        have o3 : h2.next ≠ o := by have := Heap.lt_next e2; omega
        simp only [go_sem, true_and, and_true, ↓reduceIte, Nat.reduceEqDiff, Nat.reduceAdd, Bool.not_true, Bool.not_false, List.getElem?_cons_zero, List.getElem?_cons_succ, decide_true, decide_false, Bool.false_eq_true]
        refine go_storeA (ds := [.int .i64 l[j].1, lb l[j].2.1, .int .i64 l[j].2.2]) e3 ?_ ?_ rfl rfl (by simp [V.one, lb]) ?_
        · simp only [go_sem, true_and, and_true, ↓reduceIte, Nat.reduceEqDiff, Nat.reduceAdd, Bool.not_true, Bool.not_false, List.getElem?_cons_zero, List.getElem?_cons_succ, decide_true, decide_false, Bool.false_eq_true]
        · simp only [go_sem, true_and, and_true, ↓reduceIte, Nat.reduceEqDiff, Nat.reduceAdd, Bool.not_true, Bool.not_false, List.getElem?_cons_zero, List.getElem?_cons_succ, decide_true, decide_false, Bool.false_eq_true]
          rfl
        intro h4 f4 n4 e4
        have f24 : Fr [] h2 h4 := f3.trans f4 (fun k hk => .inr (by simp at hk; omega))
        have l4 : loadV h4 true 3 (.ptr h2.next 0 0) = some (sentV l[j]) := ldA e4 rfl
        simp only [go_sem, true_and, and_true, ↓reduceIte, Nat.reduceEqDiff, Nat.reduceAdd, Bool.not_true, Bool.not_false, List.getElem?_cons_zero, List.getElem?_cons_succ, decide_true, decide_false, Bool.false_eq_true, l4, a1, List.cons_append, List.nil_append]
        have f04 : Fr [o] h h4 := f2.trans f24 (by simp)
        refine ht _ (List.getElem_mem hjl) h4 (hok h4 f04) _ ?_
        intro h5 f5
        have f25 : Fr [] h2 h5 := f24.trans f5 (by simp)
        have e5 := f25.at e2 (by simp)
        have f05 : Fr [o] h h5 := f2.trans f25 (by simp)
        have l5 : loadV h5 true 3 (.ptr h2.next 0 0) = some (sentV l[j]) := ldA (f5.at e4 (by simp)) rfl
        simp only [go_sem, true_and, and_true, ↓reduceIte, Nat.reduceEqDiff, Nat.reduceAdd, Bool.not_true, Bool.not_false, List.getElem?_cons_zero, List.getElem?_cons_succ, decide_true, decide_false, Bool.false_eq_true]
        cases hp : pr l[j] with
        | true =>
          rw [hp] at hft
          simp only [Bool.not_true, Bool.false_eq_true, if_false, List.append_nil] at hft
          simp only [go_sem, true_and, and_true, ↓reduceIte, Nat.reduceEqDiff, Nat.reduceAdd, Bool.not_true, Bool.not_false, List.getElem?_cons_zero, List.getElem?_cons_succ, decide_true, decide_false, Bool.false_eq_true, fn114u1, a0, a1, a5, a6, wj]
          refine ⟨m, by omega, j + 1, ys, by omega, by omega, ?_, rfl, f05, e5, hy, ?_, ?_, hall⟩
          · rw [hft]
          · rw [hft]; exact hta
          · have : (ys.drop j).drop 1 = ((l.drop j).map sentV).drop 1 := by rw [hdr]
            rw [← List.map_drop, List.drop_drop, List.drop_drop] at this
            exact this
        | false =>
          rw [hp] at hft
          simp only [Bool.not_false, if_true] at hft
          have wk : IntKind.i64.wrap ((((l.take j).filter fun s => !pr s).length : Int) + 1) = (((l.take (j + 1)).filter fun s => !pr s).length : Int) := by rw [hft, wrap64 (by omega) (by omega)]; simp
          have hky : ((l.take j).filter fun s => !pr s).length < ys.length := by omega
          simp only [go_sem, true_and, and_true, ↓reduceIte, Nat.reduceEqDiff, Nat.reduceAdd, Bool.not_true, Bool.not_false, List.getElem?_cons_zero, List.getElem?_cons_succ, decide_true, decide_false, Bool.false_eq_true, a0, a5, l5]
          refine go_iaddrO (len := l.length) (room := l.length) (k := .i64) (n := ((l.take j).filter fun s => !pr s).length) e5 ?_ ?_ (by omega) hky ?_
          · simp only [go_sem, true_and, and_true, ↓reduceIte, Nat.reduceEqDiff, Nat.reduceAdd, Bool.not_true, Bool.not_false, List.getElem?_cons_zero, List.getElem?_cons_succ, decide_true, decide_false, Bool.false_eq_true, a0]
          · simp only [go_sem, true_and, and_true, ↓reduceIte, Nat.reduceEqDiff, Nat.reduceAdd, Bool.not_true, Bool.not_false, List.getElem?_cons_zero, List.getElem?_cons_succ, decide_true, decide_false, Bool.false_eq_true, a5]
          simp only [go_sem, true_and, and_true, ↓reduceIte, Nat.reduceEqDiff, Nat.reduceAdd, Bool.not_true, Bool.not_false, List.getElem?_cons_zero, List.getElem?_cons_succ, decide_true, decide_false, Bool.false_eq_true]
          obtain ⟨y, hyk⟩ : ∃ y, ys[((l.take j).filter fun s => !pr s).length]? = some y := ⟨_, List.getElem?_eq_getElem hky⟩
          obtain ⟨sk, rfl⟩ := hall y (List.mem_of_getElem? hyk)
          refine go_storeE (ds := [.int .i64 l[j].1, lb l[j].2.1, .int .i64 l[j].2.2]) e5 ?_ ?_ hyk rfl rfl (by simp [V.one, lb]) ?_
          · simp only [go_sem, true_and, and_true, ↓reduceIte, Nat.reduceEqDiff, Nat.reduceAdd, Bool.not_true, Bool.not_false, List.getElem?_cons_zero, List.getElem?_cons_succ, decide_true, decide_false, Bool.false_eq_true]
          · simp only [go_sem, true_and, and_true, ↓reduceIte, Nat.reduceEqDiff, Nat.reduceAdd, Bool.not_true, Bool.not_false, List.getElem?_cons_zero, List.getElem?_cons_succ, decide_true, decide_false, Bool.false_eq_true]
            rfl
          intro h6 f6 n6 e6
          generalize hk : ((l.take j).filter fun s => !pr s).length = k at *
          simp only [go_sem, true_and, and_true, ↓reduceIte, Nat.reduceEqDiff, Nat.reduceAdd, Bool.not_true, Bool.not_false, List.getElem?_cons_zero, List.getElem?_cons_succ, decide_true, decide_false, Bool.false_eq_true, fn114u1, a0, a1, a5, a6, wj, wk]
          refine ⟨m, by omega, j + 1, ys.set k (sentV l[j]), by omega, by omega, rfl, rfl, f05.trans f6 (by simp), e6, by simpa using hy, ?_, ?_, ?_⟩
          · rw [hft, List.length_append, hk, List.map_append, ← hta]
            simp only [List.length_cons, List.length_nil, List.map_cons, List.map_nil]
            rw [List.take_add_one, List.take_set_of_le (by omega)]
            simp [hky]
          · rw [List.drop_set_of_lt (by omega)]
            have : (ys.drop j).drop 1 = ((l.drop j).map sentV).drop 1 := by rw [hdr]
            rw [← List.map_drop, List.drop_drop, List.drop_drop] at this
            exact this
          · intro y hy
            rcases List.mem_or_eq_of_mem_set hy with q | q
            · exact hall y q
            · exact ⟨_, q⟩

/-- What is acknowledged is on the way no more. -/
def Tn.acks (T : Tn) (f : Fm) : Tn := Tn.slide { T with way := T.way.filter fun s => !acked f.ack f.bits s }

theorem ack_spec (hG : Nibs G) {t : Nat} {T : Tn} {S : List Nat} (pT : TunR h t T S) (B : SlB T) (f : Fm) (fb : V) (f1 : fb.one = true) (ha : 0 ≤ f.ack ∧ f.ack ≤ 1099511627776) (R : V → Heap → Prop)
    (hR : ∀ h' S', TunR h' t (T.acks f) S' → Up h h' S S' → R (.tup []) h') : Calls0 Tryd.prog G 95 [.ptr t 0 0, f.v fb] h R := by
  have pp := pT
  obtain ⟨wv, qv, ev, ov, So, Sm, p, hS⟩ := pp
  refine fn_walk mixed fn95uis [12] rfl ?_
  simp only [go_sem, true_and, and_true, ↓reduceIte, Nat.reduceEqDiff, Nat.reduceAdd, Bool.not_true, Bool.not_false, List.getElem?_cons_zero, List.getElem?_cons_succ, decide_true, decide_false, Bool.false_eq_true, fn95]
  refine go_box (v := f.v fb) rfl rfl (fm_sane f1) ?_
  intro h1 f1' e1
  have p1 := p.new f1' (by simp)
  have l3 : loadV h1 false 1 (.ptr t 0 3) = some wv := ld0 p1.obj rfl
  have wl := B.wl
  simp only [go_sem, true_and, and_true, ↓reduceIte, Nat.reduceEqDiff, Nat.reduceAdd, Bool.not_true, Bool.not_false, List.getElem?_cons_zero, List.getElem?_cons_succ, decide_true, decide_false, Bool.false_eq_true, l3]
  refine clone81 (l := T.way) p1.way.read (by omega) _ ?_
  intro v2 h2 w2
  obtain ⟨f2, S2, r2, s2⟩ := w2
  have e2 := f2.at e1 (by simp)
  have tlt : t < h.next := p.lt t (by simp)
  have flt := Heap.lt_next e1
  simp only [go_sem, true_and, and_true, ↓reduceIte, Nat.reduceEqDiff, Nat.reduceAdd, Bool.not_true, Bool.not_false, List.getElem?_cons_zero, List.getElem?_cons_succ, decide_true, decide_false, Bool.false_eq_true]
  refine delete_spec (S := S2) (pr := acked f.ack f.bits) (Ok := fun h' => h'.obj h.next = some (.arr 134 7 [f.v fb])) r2 ?_ ?_ (by omega) _ ?_
  · intro s hs h3 hok R' hR'
    exact acked_spec f fb h.next hok s (B.w0 s hs) ha R' hR'
  · intro h3 f3
    exact f3.at e2 (fun hm => by have := s2 _ hm; omega)
  · intro v3 h3 w3
    simp only [go_sem, true_and, and_true, ↓reduceIte, Nat.reduceEqDiff, Nat.reduceAdd, Bool.not_true, Bool.not_false, List.getElem?_cons_zero, List.getElem?_cons_succ, decide_true, decide_false, Bool.false_eq_true]
    refine frz_to w3 ?_
    intro h4 f4
    have f14 : Fr [] h1 h4 := f2.trans f4 (fun k hk => .inr (s2 k hk))
    have p4 := p1.new f14 (by simp)
    simp only [go_sem, true_and, and_true, ↓reduceIte, Nat.reduceEqDiff, Nat.reduceAdd, Bool.not_true, Bool.not_false, List.getElem?_cons_zero, List.getElem?_cons_succ, decide_true, decide_false, Bool.false_eq_true]
    refine go_store0 (v := .lst ((T.way.filter fun s => !acked f.ack f.bits s).map sentV)) (sub := 3) p4.obj rfl rfl rfl (by simp [tunC]) ?_
    intro h5 f5 n5 e5
    simp only [tunC, List.set_cons_zero, List.set_cons_succ] at e5
    have p5 := p4.put (T' := { T with way := T.way.filter fun s => !acked f.ack f.bits s }) f5 e5 (.inl rfl) p4.queue rfl rfl rfl
    simp only [go_sem, true_and, and_true, ↓reduceIte, Nat.reduceEqDiff, Nat.reduceAdd, Bool.not_true, Bool.not_false, List.getElem?_cons_zero, List.getElem?_cons_succ, decide_true, decide_false, Bool.false_eq_true]
    refine slide_spec hG ⟨_, _, _, _, _, _, p5, rfl⟩ ?_ _ ?_
    · obtain ⟨n0, n1, w0, wl, ol, bl⟩ := B
      refine ⟨n0, n1, fun s hs => w0 s (List.mem_filter.1 hs).1, ?_, ol, bl⟩
      have := List.length_filter_le (fun s => !acked f.ack f.bits s) T.way
      show (T.way.filter _).length + T.queue.length ≤ _
      omega
    intro h6 S6 q6 u6
    simp only [go_sem, true_and, and_true, ↓reduceIte, Nat.reduceEqDiff, Nat.reduceAdd, Bool.not_true, Bool.not_false, List.getElem?_cons_zero, List.getElem?_cons_succ, decide_true, decide_false, Bool.false_eq_true]
    refine hR h6 S6 q6 ((show Up h h5 S (t :: (So ++ Sm)) from ?_).trans u6)
    rw [hS]
    exact ⟨((f1'.trans f14 (by simp)).mono (by simp)).trans f5 (by simp), fun _ hk => .inl hk⟩

end Go.Am

/- tunnel: data: messages that came. -/
namespace Go.Am
open Go.Proofs
variable {G : Nat → V} {h h' h'' : Heap} {fz : List Nat} {a : Tm} {K : Tm → Heap → Prop}

/-! ### early messages -/
abbrev Es := List (Int × List UInt8)
def eGet (k : Int) : Es → Option (List UInt8)
  | [] => none
  | p :: l => if p.1 = k then some p.2 else eGet k l
def ePut (k : Int) (b : List UInt8) : Es → Es
  | [] => [(k, b)]
  | p :: l => if p.1 = k then (k, b) :: l else p :: ePut k b l
def eDel (k : Int) : Es → Es
  | [] => []
  | p :: l => if p.1 = k then l else p :: eDel k l

def EsOk (xs : List En) (es : Es) : Prop := xs.map (fun e => (e.key, e.val)) = es.map fun p => (.int .i64 p.1, lb p.2)

theorem EsOk.cons {x : En} {xs : List En} {p : Int × List UInt8} {es : Es} (e : EsOk (x :: xs) (p :: es)) : x.key = .int .i64 p.1 ∧ x.val = lb p.2 ∧ EsOk xs es := by
  simp only [EsOk, List.map_cons, List.cons.injEq, Prod.mk.injEq] at e
  exact ⟨e.1.1, e.1.2, e.2⟩
theorem keyEq_int (k m : Int) : keyEq none (.int .i64 k) (.int .i64 m) = some (k == m) := rfl

theorem es_find (k : Int) : ∀ (xs : List En) (es : Es), EsOk xs es → ∃ q, findV none (.int .i64 k) xs = some q ∧ (∀ b, eGet k es = some b → ∃ n, q = some (lb b, n)) ∧ (eGet k es = none → q = none) ∧
    (q.isSome = true → ∀ b, EsOk (putAt none (.int .i64 k) (some (lb b)) xs) (ePut k b es)) ∧ (q = none → ∀ b n, EsOk (xs ++ [⟨.int .i64 k, lb b, n⟩]) (ePut k b es)) ∧ (q.isSome = true → EsOk (dropV none (.int .i64 k) xs) (eDel k es))
  | [], [], _ => by
    refine ⟨none, rfl, (fun b e => by cases e), fun _ => rfl, (fun e => by cases e), fun _ b n => rfl, (fun e => by cases e)⟩
  | x :: xs, p :: es, e => by
    obtain ⟨h1, h2, h3⟩ := e.cons
    by_cases c : p.1 = k
    · have kq : keyEq none (.int .i64 k) x.key = some true := by rw [h1, keyEq_int, c]; simp
      refine ⟨some (x.val, x.born), by simp only [findV, kq], fun b hb => ⟨x.born, ?_⟩, fun hn => ?_, fun _ b => ?_, (fun e => by cases e), fun _ => ?_⟩
      · simp only [eGet, c, if_true, Option.some.injEq] at hb
        rw [h2, hb]
      · simp [eGet, c] at hn
      · simp only [putAt, kq, if_true, ePut, c]
        simp only [EsOk, List.map_cons, Option.getD_some]
        unfold EsOk at h3
        rw [h3]
      · simp only [dropV, kq, if_true, eDel, c]
        exact h3
    · have kq : keyEq none (.int .i64 k) x.key = some false := by
        rw [h1, keyEq_int]
        have : (k == p.1) = false := by simp only [beq_eq_false_iff_ne, ne_eq]; exact fun e => c e.symm
        rw [this]
      obtain ⟨q, q1, q2, q3, q4, q5, q6⟩ := es_find k xs es h3
      have ne : ¬ (some false = some true) := by simp
      refine ⟨q, by simp only [findV, kq, q1], fun b hb => q2 b ?_, fun hn => q3 ?_, fun hs b => ?_, fun hq b n => ?_, fun hs => ?_⟩
      · simpa [eGet, c] using hb
      · simpa [eGet, c] using hn
      · simp only [putAt, kq, ePut, c, if_false, ne]
        simp only [EsOk, List.map_cons]
        have q := q4 hs b
        unfold EsOk at q
        rw [h1, h2, q]
      · simp only [ePut, c, if_false, List.cons_append]
        simp only [EsOk, List.map_cons]
        have q := q5 hq b n
        unfold EsOk at q
        rw [h1, h2, q]
      · simp only [dropV, kq, eDel, c, if_false, ne]
        simp only [EsOk, List.map_cons]
        have q := q6 hs
        unfold EsOk at q
        rw [h1, h2, q]
  | [], _ :: _, e => by simp [EsOk] at e
  | _ :: _, [], e => by simp [EsOk] at e

theorem es_findK {k : Int} {xs : List En} : findK none (.int .i64 k) xs = findV none (.int .i64 k) xs := by
  have : isKey none (.int .i64 k) = true := by simp [isKey, keyEq, eqInt]
  simp only [findK, this, if_true]

/-- m[k], and whether it is there. -/
theorem go_lookE {i : Ins} {x y : Opd} {S : List Nat} {v : V} {es : Es} {k : Int} (m : Mp h S v es true) (hx : x.ev G a = v) (hy : y.ev G a = .int .i64 k)
    (hn : eGet k es = none → putD G fz i K a (.tup [.nil, .bool false]) h) (hs : ∀ b, eGet k es = some b → putD G fz i K a (.tup [lb b, .bool true]) h) : goO G fz i K a (stepI G a h (.lookup none .nil x y true)) := by
  rcases m with ⟨e, _⟩ | ⟨m, xs, cl, _, _, rfl, e, hc⟩
  · cases e
  · obtain ⟨q, q1, q2, q3, _⟩ := es_find k xs es hc
    have : stepI G a h (.lookup none .nil x y true) = some (lookR true .nil q, h) := by
      simp only [stepI, hx, hy, lookV, e, es_findK, q1, Option.map_some]
    rw [this]
    cases hg : eGet k es with
    | none => rw [q3 hg]; exact hn hg
    | some b => obtain ⟨n, rfl⟩ := q2 b hg; exact hs b hg

/-- m[k] = b. -/
theorem go_mupdE {i : Ins} {x y z : Opd} {S : List Nat} {v : V} {es : Es} {k : Int} {b : List UInt8} (m : Mp h S v es true) (hx : x.ev G a = v) (hy : y.ev G a = .int .i64 k) (hz : z.ev G a = lb b)
    (hk : ∀ h', Mp h' S v (ePut k b es) true → Fr S h h' → h'.next = h.next → putD G fz i K a .undef h') : goO G fz i K a (stepI G a h (.mupd none x y z)) := by
  rcases m with ⟨e, _⟩ | ⟨m, xs, cl, _, rfl, rfl, e, hc⟩
  · cases e
  · obtain ⟨q, q1, _, _, q4, q5, _⟩ := es_find k xs es hc
    have : stepI G a h (.mupd none x y z) = some (.undef, updMap h m none (.int .i64 k) (lb b) xs cl q) := by
      simp only [stepI, hx, hy, hz, e, es_findK, q1]
    rw [this]
    cases q with
    | none => exact hk _ (.inr ⟨m, _, _, rfl, rfl, rfl, set_new e, q5 rfl b cl⟩) (Fr.set h m _) rfl
    | some p => exact hk _ (.inr ⟨m, _, _, rfl, rfl, rfl, set_new e, q4 rfl b⟩) (Fr.set h m _) rfl

/-- delete(m, k), of what is there. -/
theorem go_delE {i : Ins} {x y : Opd} {S : List Nat} {v : V} {es : Es} {k : Int} {b : List UInt8} (m : Mp h S v es true) (hg : eGet k es = some b) (hx : x.ev G a = v) (hy : y.ev G a = .int .i64 k)
    (hk : ∀ h', Mp h' S v (eDel k es) true → Fr S h h' → h'.next = h.next → putD G fz i K a (.tup []) h') : goO G fz i K a (stepI G a h (.delete none x y)) := by
  rcases m with ⟨e, _⟩ | ⟨m, xs, cl, _, rfl, rfl, e, hc⟩
  · cases e
  · obtain ⟨q, q1, q2, _, _, _, q6⟩ := es_find k xs es hc
    have : stepI G a h (.delete none x y) = some (.tup [], outMap h m none (.int .i64 k) xs cl q) := by
      simp only [stepI, hx, hy, e, es_findK, q1]
    rw [this]
    obtain ⟨n, rfl⟩ := q2 b hg
    exact hk _ (.inr ⟨m, _, _, rfl, rfl, rfl, set_new e, q6 rfl⟩) (Fr.set h m _) rfl

theorem eDel_len {k : Int} : ∀ {es : Es} {b : List UInt8}, eGet k es = some b → (eDel k es).length + 1 = es.length
  | [], _, e => by cases e
  | p :: l, b, e => by
    by_cases c : p.1 = k
    · simp [eDel, c]
    · have : eGet k l = some b := by simpa [eGet, c] using e
      simp [eDel, c, eDel_len this]

/-! ### what is told -/

def Tn.keep (T : Tn) (f : Fm) : Tn := if f.seq > T.expect ∧ f.seq - T.expect ≤ 16 then { T with early := ePut f.seq f.body T.early } else T
def Tn.tell : Nat → Tn → Tn × List (List UInt8)
  | 0, T => (T, [])
  | n + 1, T =>
    match eGet (T.expect + 1) T.early with
    | none => (T, [])
    | some b => ((Tn.tell n { T with early := eDel (T.expect + 1) T.early, expect := T.expect + 1 }).1, b :: (Tn.tell n { T with early := eDel (T.expect + 1) T.early, expect := T.expect + 1 }).2)
def orB (x : Int) (i : Nat) : Int := IntKind.i64.wrap (BitVec.ofInt 64 x ||| BitVec.ofInt 64 (IntKind.i64.wrap (1 * 2 ^ min i 64))).toNat
def Tn.bitsTo (T : Tn) : Nat → Int
  | 0 => 0
  | i + 1 => if (eGet (T.expect + 1 + i) T.early).isSome then orB (T.bitsTo i) i else T.bitsTo i
def Tn.told (T : Tn) (f : Fm) : Tn × List (List UInt8) := Tn.tell (T.keep f).early.length (T.keep f)
def Tn.data (T : Tn) (f : Fm) : Tn × List (List UInt8) := ((T.told f).1.say (ackM T.you (T.told f).1.expect ((T.told f).1.bitsTo 16)), (T.told f).2)

theorem TunP.early' {t : Nat} {T : Tn} {wv qv ev ov : V} {So Sm : List Nat} (p : TunP h t T wv qv ev ov So Sm) (hu : T.up = true) : Mp h Sm ev T.early true := by
  have := p.early
  rw [hu] at this
  exact this

/-- A tunnel's map was turned. -/
theorem TunP.map {t : Nat} {T : Tn} {wv qv ev ov : V} {So Sm : List Nat} {es : Es} (p : TunP h t T wv qv ev ov So Sm) (hu : T.up = true) (f : Fr Sm h h') (m : Mp h' Sm ev es true) : TunP h' t { T with early := es } wv qv ev ov So Sm := by
  have nd := p.nd
  simp only [List.nodup_cons, List.mem_append, List.nodup_append, not_or] at nd
  refine ⟨f.at p.obj nd.1.2, p.way, p.queue, p.out.fr f (fun k hk hm => nd.2.2.2 k hk k hm rfl), ?_, p.nd⟩
  rw [hu]
  exact m

set_option maxHeartbeats 1000000 in
theorem data_spec (hG : Nibs G) {t : Nat} {T : Tn} {S : List Nat} (pT : TunR h t T S) (hu : T.up = true) (hb : T.out.length ≤ 1000000) (hx : 0 ≤ T.expect ∧ T.expect ≤ 1099511627776) (hel : T.early.length ≤ 100000) (f : Fm) (f1 : 0 ≤ f.seq ∧ f.seq ≤ 1099511627776) (R : V → Heap → Prop)
    (hR : ∀ v h' S' Sg, TunR h' t (T.data f).1 S' → Up h h' S S' → Row h' Sg 27 1 ((T.data f).2.map lb) v → (∀ k ∈ Sg, h.next ≤ k ∧ k ∉ S') → R v h') : Calls0 Tryd.prog G 96 [.ptr t 0 0, f.v (lb f.body)] h R := by
  refine fn_walk mixed fn96uis [] rfl ?_
  simp only [go_sem, true_and, and_true, ↓reduceIte, Nat.reduceEqDiff, Nat.reduceAdd, Bool.not_true, Bool.not_false, List.getElem?_cons_zero, List.getElem?_cons_succ, decide_true, decide_false, Bool.false_eq_true, fn96]
  refine go_box (v := f.v (lb f.body)) rfl rfl (fm_sane rfl) ?_
  intro h1 fr1 e1
  obtain ⟨wv, qv, ev, ov, So, Sm, p, rfl⟩ := pT
  have tlt : t < h.next := p.lt t (by simp)
  have p1 := p.new fr1 (by simp)
  have flt := Heap.lt_next e1
  have up1 : Up h h1 (t :: (So ++ Sm)) (t :: (So ++ Sm)) := ⟨fr1.mono (by simp), fun _ hk => .inl hk⟩
  have l3 : loadV h1 false 1 (.ptr h.next 0 3) = some (.int .i64 f.seq) := ld0 e1 rfl
  have l6 : loadV h1 false 1 (.ptr h.next 0 6) = some (lb f.body) := ld0 e1 rfl
  have m5 : loadV h1 false 1 (.ptr t 0 5) = some (.int .i64 T.expect) := ld0 p1.obj rfl
  have m6 : loadV h1 false 1 (.ptr t 0 6) = some ev := ld0 p1.obj rfl
  have w1 : IntKind.i64.wrap (f.seq - T.expect) = f.seq - T.expect := wrap64 (by omega) (by omega)
  -- behind the first statement
  have rest : ∀ (h2 : Heap) (a : Tm), a 0 = .ptr t 0 0 → a 5 = .nil → TunP h2 t (T.keep f) wv qv ev ov So Sm → Up h h2 (t :: (So ++ Sm)) (t :: (So ++ Sm)) → wpC (Calls0 Tryd.prog G) G [] fn96u9 (postF R [.tmp 4]) a h2 := by
    intro h2 a a0 a5 p2 u2
    have ku : (T.keep f).up = true := by unfold Tn.keep; split <;> exact hu
    have kx : (T.keep f).expect = T.expect := by unfold Tn.keep; split <;> rfl
    have ko : (T.keep f).out = T.out := by unfold Tn.keep; split <;> rfl
    have ky : (T.keep f).you = T.you := by unfold Tn.keep; split <;> rfl
    have kl : (T.keep f).early.length ≤ 100001 := by
      unfold Tn.keep
      split
      · have : ∀ l : Es, (ePut f.seq f.body l).length ≤ l.length + 1 := by
          intro l
          induction l with
          | nil => simp [ePut]
          | cons p l ih => simp only [ePut]; split <;> simp; omega
        have := this T.early
        show (ePut f.seq f.body T.early).length ≤ _
        omega
      · omega
    simp only [go_sem, true_and, and_true, ↓reduceIte, Nat.reduceEqDiff, Nat.reduceAdd, Bool.not_true, Bool.not_false, List.getElem?_cons_zero, List.getElem?_cons_succ, decide_true, decide_false, Bool.false_eq_true, fn96u9]
    refine w_loop (fun a h' n => a 0 = .ptr t 0 0 ∧ ∃ T' S' got Sg, TunR h' t T' S' ∧ Up h h' (t :: (So ++ Sm)) S' ∧ Row h' Sg 27 1 (got.map lb) (a 5) ∧ (∀ k ∈ Sg, h.next ≤ k ∧ k ∉ S') ∧ T'.up = true ∧ 0 ≤ T'.expect ∧ T'.expect + n ≤ T.expect + 100001 ∧ T'.out = T.out ∧ T'.you = T.you ∧ T'.early.length = n ∧
      got.length + n ≤ 100001 ∧ (Tn.tell n T').1 = (T.told f).1 ∧ got ++ (Tn.tell n T').2 = (T.told f).2) (T.keep f).early.length ?_ ?_
    · refine ⟨a0, T.keep f, _, [], [], ⟨_, _, _, _, _, _, p2, rfl⟩, u2, ?_, by simp, ku, by omega, by omega, ko, ky, rfl, by simpa using kl, rfl, rfl⟩
      rw [a5]
      exact Row.nil
    · rintro a h3 n ⟨a0, T', S', got, Sg, q3, u3, g3, s3, hu', hx0, hx1, ho', hy', hn, hgl, ht1, ht2⟩
      have q3' := q3
      obtain ⟨wv3, qv3, ev3, ov3, So3, Sm3, p3, hS3⟩ := q3
      have m5 : loadV h3 false 1 (.ptr t 0 5) = some (.int .i64 T'.expect) := ld0 p3.obj rfl
      have m6 : loadV h3 false 1 (.ptr t 0 6) = some ev3 := ld0 p3.obj rfl
      have w1 : IntKind.i64.wrap (T'.expect + 1) = T'.expect + 1 := wrap64 (by omega) (by omega)
      simp only [go_sem, true_and, and_true, ↓reduceIte, Nat.reduceEqDiff, Nat.reduceAdd, Bool.not_true, Bool.not_false, List.getElem?_cons_zero, List.getElem?_cons_succ, decide_true, decide_false, Bool.false_eq_true, fn96u3, a0, m5, m6, w1]
      refine go_lookE (k := T'.expect + 1) (p3.early' hu') ?_ ?_ ?_ ?_
      · simp only [go_sem, true_and, and_true, ↓reduceIte, Nat.reduceEqDiff, Nat.reduceAdd, Bool.not_true, Bool.not_false, List.getElem?_cons_zero, List.getElem?_cons_succ, decide_true, decide_false, Bool.false_eq_true]
      · simp only [go_sem, true_and, and_true, ↓reduceIte, Nat.reduceEqDiff, Nat.reduceAdd, Bool.not_true, Bool.not_false, List.getElem?_cons_zero, List.getElem?_cons_succ, decide_true, decide_false, Bool.false_eq_true]
      · intro hg
        have ht1' : T' = (T.told f).1 := by rw [← ht1]; cases n with | zero => rfl | succ n => rw [Tn.tell, hg]
        have ht2' : got = (T.told f).2 := by rw [← ht2]; cases n with | zero => simp [Tn.tell] | succ n => rw [Tn.tell, hg]; simp
        have el := p3.early' hu'
        simp only [go_sem, true_and, and_true, ↓reduceIte, Nat.reduceEqDiff, Nat.reduceAdd, Bool.not_true, Bool.not_false, List.getElem?_cons_zero, List.getElem?_cons_succ, decide_true, decide_false, Bool.false_eq_true, fn96u8, a0]
        refine w_loop (fun a h' m => m ≤ 16 ∧ h3 = h' ∧ a 0 = .ptr t 0 0 ∧ Row h3 Sg 27 1 (got.map lb) (a 5) ∧ a 8 = .int .i64 (T'.bitsTo (16 - m)) ∧ a 81 = .int .i64 ((16 - m : Nat) : Int)) 16 ?_ ?_
        · refine ⟨Nat.le_refl _, rfl, ?_, ?_, rfl, rfl⟩
          · simp only [go_sem, true_and, and_true, ↓reduceIte, Nat.reduceEqDiff, Nat.reduceAdd, Bool.not_true, Bool.not_false, List.getElem?_cons_zero, List.getElem?_cons_succ, decide_true, decide_false, Bool.false_eq_true, a0]
          · simp only [go_sem, true_and, and_true, ↓reduceIte, Nat.reduceEqDiff, Nat.reduceAdd, Bool.not_true, Bool.not_false, List.getElem?_cons_zero, List.getElem?_cons_succ, decide_true, decide_false, Bool.false_eq_true]
            exact g3
        · rintro a _ m ⟨hm, rfl, a0, g3', a8, a81⟩
          cases m with
          | zero =>
            have ci : ¬ ((16 - 0 : Nat) : Int) < 16 := by omega
            have m8 : loadV h3 false 1 (.ptr t 0 8) = some (.int .i64 T'.you) := ld0 p3.obj rfl
            simp only [go_sem, true_and, and_true, ↓reduceIte, Nat.reduceEqDiff, Nat.reduceAdd, Bool.not_true, Bool.not_false, List.getElem?_cons_zero, List.getElem?_cons_succ, decide_true, decide_false, Bool.false_eq_true, fn96u6, fn96u7, a0, a8, a81, ci, m5, m8]
            refine go_build (cs := [.int .i64 3, .int .i64 0, .int .i64 T'.you, .int .i64 0, .int .i64 T'.expect, .int .i64 (T'.bitsTo 16), .nil]) rfl ?_
            simp only [go_sem, true_and, and_true, ↓reduceIte, Nat.reduceEqDiff, Nat.reduceAdd, Bool.not_true, Bool.not_false, List.getElem?_cons_zero, List.getElem?_cons_succ, decide_true, decide_false, Bool.false_eq_true, a0]
            refine say_spec hG q3' (by rw [ho']; omega) (ackM T'.you T'.expect (T'.bitsTo 16)) .nil Rs.nil rfl _ ?_
            intro h4 S4 q4 u4
            simp only [go_sem, true_and, and_true, ↓reduceIte, Nat.reduceEqDiff, Nat.reduceAdd, Bool.not_true, Bool.not_false, List.getElem?_cons_zero, List.getElem?_cons_succ, decide_true, decide_false, Bool.false_eq_true, a0]
            refine hR _ h4 S4 Sg ?_ (u3.trans u4) ?_ ?_
            · have : (T.data f).1 = T'.say (ackM T'.you T'.expect (T'.bitsTo 16)) := by
                unfold Tn.data
                rw [← ht1', hy']
              rw [this]
              exact q4
            · have := g3'.fr u4.fr (fun k hk => (s3 k hk).2)
              unfold Tn.data
              rw [← ht2']
              exact this
            · intro k hk
              refine ⟨(s3 k hk).1, fun hm => ?_⟩
              rcases u4.sub k hm with q | q
              · exact (s3 k hk).2 q
              · have := g3'.lt k hk; omega
          | succ m =>
            have ci : ((16 - (m + 1) : Nat) : Int) < 16 := by omega
            have wi : IntKind.i64.wrap (((16 - (m + 1) : Nat) : Int) + 1) = ((16 - m : Nat) : Int) := by rw [wrap64 (by omega) (by omega)]; omega
            have w2 : IntKind.i64.wrap (T'.expect + 1 + ((16 - (m + 1) : Nat) : Int)) = T'.expect + 1 + ((16 - (m + 1) : Nat) : Int) := wrap64 (by omega) (by omega)
            have bt : T'.bitsTo (16 - m) = if (eGet (T'.expect + 1 + ((16 - (m + 1) : Nat) : Int)) T'.early).isSome then orB (T'.bitsTo (16 - (m + 1))) (16 - (m + 1)) else T'.bitsTo (16 - (m + 1)) := by
              rw [show 16 - m = (16 - (m + 1)) + 1 from by omega]
              rfl
            simp only [go_sem, true_and, and_true, ↓reduceIte, Nat.reduceEqDiff, Nat.reduceAdd, Bool.not_true, Bool.not_false, List.getElem?_cons_zero, List.getElem?_cons_succ, decide_true, decide_false, Bool.false_eq_true, fn96u6, fn96u5, a0, a8, a81, ci, m5, m6, w1, w2]
            refine go_lookE (k := T'.expect + 1 + ((16 - (m + 1) : Nat) : Int)) el ?_ ?_ ?_ ?_
            · simp only [go_sem, true_and, and_true, ↓reduceIte, Nat.reduceEqDiff, Nat.reduceAdd, Bool.not_true, Bool.not_false, List.getElem?_cons_zero, List.getElem?_cons_succ, decide_true, decide_false, Bool.false_eq_true]
            · simp only [go_sem, true_and, and_true, ↓reduceIte, Nat.reduceEqDiff, Nat.reduceAdd, Bool.not_true, Bool.not_false, List.getElem?_cons_zero, List.getElem?_cons_succ, decide_true, decide_false, Bool.false_eq_true]
            · intro hg2
              rw [hg2] at bt
              simp only [go_sem, true_and, and_true, ↓reduceIte, Nat.reduceEqDiff, Nat.reduceAdd, Bool.not_true, Bool.not_false, List.getElem?_cons_zero, List.getElem?_cons_succ, decide_true, decide_false, Bool.false_eq_true, fn96u4, a0, a8, a81, wi]
              refine ⟨m, by omega, by omega, g3', ?_, rfl⟩
              rw [bt]
              rfl
            · intro b2 hg2
              rw [hg2] at bt
              have hsh : ¬ ((16 - (m + 1) : Nat) : Int) < 0 := by omega
              have hbits : IntKind.i64.bits = 64 := rfl
              simp only [go_sem, true_and, and_true, ↓reduceIte, Nat.reduceEqDiff, Nat.reduceAdd, Bool.not_true, Bool.not_false, List.getElem?_cons_zero, List.getElem?_cons_succ, decide_true, decide_false, Bool.false_eq_true, fn96u4, a0, a8, a81, wi, hsh, hbits, Int.toNat_natCast]
              refine ⟨m, by omega, by omega, g3', ?_, rfl⟩
              rw [bt]
              rfl
      · intro b hg
        simp only [go_sem, true_and, and_true, ↓reduceIte, Nat.reduceEqDiff, Nat.reduceAdd, Bool.not_true, Bool.not_false, List.getElem?_cons_zero, List.getElem?_cons_succ, decide_true, decide_false, Bool.false_eq_true, fn96u2, a0, m5, m6, w1]
        cases n with
        | zero =>
          have : T'.early = [] := List.length_eq_zero_iff.1 hn
          rw [this] at hg
          cases hg
        | succ n =>
        refine go_delE (k := T'.expect + 1) (p3.early' hu') hg ?_ ?_ ?_
        · simp only [go_sem, true_and, and_true, ↓reduceIte, Nat.reduceEqDiff, Nat.reduceAdd, Bool.not_true, Bool.not_false, List.getElem?_cons_zero, List.getElem?_cons_succ, decide_true, decide_false, Bool.false_eq_true]
        · simp only [go_sem, true_and, and_true, ↓reduceIte, Nat.reduceEqDiff, Nat.reduceAdd, Bool.not_true, Bool.not_false, List.getElem?_cons_zero, List.getElem?_cons_succ, decide_true, decide_false, Bool.false_eq_true]
        intro h4 m4 f4 n4
        have p4 := p3.map hu' f4 m4
        have k5 : loadV h4 false 1 (.ptr t 0 5) = some (.int .i64 T'.expect) := ld0 p4.obj rfl
        simp only [go_sem, true_and, and_true, ↓reduceIte, Nat.reduceEqDiff, Nat.reduceAdd, Bool.not_true, Bool.not_false, List.getElem?_cons_zero, List.getElem?_cons_succ, decide_true, decide_false, Bool.false_eq_true, a0, k5, w1]
        refine go_store0 (v := .int .i64 (T'.expect + 1)) (sub := 5) p4.obj ?_ ?_ rfl (by simp [tunC]) ?_
        · simp only [go_sem, true_and, and_true, ↓reduceIte, Nat.reduceEqDiff, Nat.reduceAdd, Bool.not_true, Bool.not_false, List.getElem?_cons_zero, List.getElem?_cons_succ, decide_true, decide_false, Bool.false_eq_true]
        · simp only [go_sem, true_and, and_true, ↓reduceIte, Nat.reduceEqDiff, Nat.reduceAdd, Bool.not_true, Bool.not_false, List.getElem?_cons_zero, List.getElem?_cons_succ, decide_true, decide_false, Bool.false_eq_true]
        intro h5 f5 n5 e5
        simp only [tunC, List.set_cons_zero, List.set_cons_succ] at e5
        have p5 := p4.put (T' := { T' with early := eDel (T'.expect + 1) T'.early, expect := T'.expect + 1 }) f5 e5 p4.way p4.queue rfl rfl rfl
        have f35 : Fr S' h3 h5 := by
          rw [hS3]
          exact (f4.mono (fun k hk => by simp [hk])).trans f5 (by simp)
        have g5 := g3.fr f35 (fun k hk => (s3 k hk).2)
        simp only [go_sem, true_and, and_true, ↓reduceIte, Nat.reduceEqDiff, Nat.reduceAdd, Bool.not_true, Bool.not_false, List.getElem?_cons_zero, List.getElem?_cons_succ, decide_true, decide_false, Bool.false_eq_true, a0]
        refine go_bslice (xs := [lb b]) rfl rfl (by omega) ?_ rfl ?_
        · simp only [go_sem, true_and, and_true, ↓reduceIte, Nat.reduceEqDiff, Nat.reduceAdd, Bool.not_true, Bool.not_false, List.getElem?_cons_zero, List.getElem?_cons_succ, decide_true, decide_false, Bool.false_eq_true]
          rfl
        intro v6 h6 w6 f6
        have g6 := g5.new f6 (by simp)
        have p6 := p5.new f6 (by simp)
        simp only [go_sem, true_and, and_true, ↓reduceIte, Nat.reduceEqDiff, Nat.reduceAdd, Bool.not_true, Bool.not_false, List.getElem?_cons_zero, List.getElem?_cons_succ, decide_true, decide_false, Bool.false_eq_true]
        refine go_appendR (ys := [lb b]) g6 ?_ ?_ ?_ ?_ rfl ?_
        · simp only [go_sem, true_and, and_true, ↓reduceIte, Nat.reduceEqDiff, Nat.reduceAdd, Bool.not_true, Bool.not_false, List.getElem?_cons_zero, List.getElem?_cons_succ, decide_true, decide_false, Bool.false_eq_true]
        · simp only [go_sem, true_and, and_true, ↓reduceIte, Nat.reduceEqDiff, Nat.reduceAdd, Bool.not_true, Bool.not_false, List.getElem?_cons_zero, List.getElem?_cons_succ, decide_true, decide_false, Bool.false_eq_true]
          exact w6.read
        · simp; omega
        · simp; omega
        intro Sg' v7 h7 g7 f7 s7
        simp only [go_sem, true_and, and_true, ↓reduceIte, Nat.reduceEqDiff, Nat.reduceAdd, Bool.not_true, Bool.not_false, List.getElem?_cons_zero, List.getElem?_cons_succ, decide_true, decide_false, Bool.false_eq_true, a0]
        have hdl := eDel_len hg
        have nx := u3.fr.next
        have lt3 := p3.lt
        have p7 := p6.fr f7 (fun k hk hm => (s3 k hm).2 (by rw [hS3]; exact hk))
        refine ⟨n, by omega, _, S', got ++ [b], Sg', ⟨_, _, _, _, _, _, p7, hS3⟩, ⟨((u3.fr.trans f35 u3.sub).trans f6 (by simp)).trans f7 (fun k hk => .inr (s3 k hk).1), u3.sub⟩, by simpa using g7, ?_, hu', ?_, ?_, ho', hy', ?_, ?_, ?_, ?_⟩
        · intro k hk
          have n6 := (f35.trans f6 (by simp)).next
          rcases s7 k hk with q | q
          · exact s3 k q
          · refine ⟨by omega, fun hm => ?_⟩
            have := lt3 k (hS3 ▸ hm)
            omega
        · show 0 ≤ T'.expect + 1; omega
        · show T'.expect + 1 + n ≤ _; omega
        · show (eDel _ _).length = n; omega
        · simp; omega
        · rw [← ht1, Tn.tell, hg]
        · rw [← ht2, Tn.tell, hg]
          simp
  by_cases c1 : f.seq > T.expect
  · by_cases c2 : f.seq - T.expect ≤ 16
    · simp only [go_sem, true_and, and_true, ↓reduceIte, Nat.reduceEqDiff, Nat.reduceAdd, Bool.not_true, Bool.not_false, List.getElem?_cons_zero, List.getElem?_cons_succ, decide_true, decide_false, Bool.false_eq_true, l3, l6, m5, m6, w1, c1, c2, fn96u1]
      refine go_mupdE (p1.early' hu) rfl rfl rfl ?_
      intro h2 m2 f2 n2
      simp only [go_sem, true_and, and_true, ↓reduceIte, Nat.reduceEqDiff, Nat.reduceAdd, Bool.not_true, Bool.not_false, List.getElem?_cons_zero, List.getElem?_cons_succ, decide_true, decide_false, Bool.false_eq_true]
      refine rest h2 _ rfl rfl ?_ (up1.trans ⟨f2.mono (fun k hk => by simp [hk]), fun _ hk => .inl hk⟩)
      have : T.keep f = { T with early := ePut f.seq f.body T.early } := by unfold Tn.keep; rw [if_pos ⟨c1, c2⟩]
      rw [this]
      exact p1.map hu f2 m2
    · simp only [go_sem, true_and, and_true, ↓reduceIte, Nat.reduceEqDiff, Nat.reduceAdd, Bool.not_true, Bool.not_false, List.getElem?_cons_zero, List.getElem?_cons_succ, decide_true, decide_false, Bool.false_eq_true, l3, l6, m5, m6, w1, c1, c2, fn96u1]
      have : T.keep f = T := by unfold Tn.keep; rw [if_neg (fun hh => c2 hh.2)]
      exact rest h1 _ rfl rfl (by rw [this]; exact p1) up1
  · simp only [go_sem, true_and, and_true, ↓reduceIte, Nat.reduceEqDiff, Nat.reduceAdd, Bool.not_true, Bool.not_false, List.getElem?_cons_zero, List.getElem?_cons_succ, decide_true, decide_false, Bool.false_eq_true, l3, l6, m5, m6, w1, c1, fn96u1]
    have : T.keep f = T := by unfold Tn.keep; rw [if_neg (fun hh => c1 hh.1)]
    exact rest h1 _ rfl rfl (by rw [this]; exact p1) up1

end Go.Am

/- tunnel: Take. -/
namespace Go.Am
open Go.Proofs
variable {G : Nat → V} {h h' h'' : Heap}

theorem getP_check {ps : List UInt8} {f : Fm} (e : getP ps = some f) : checkF f = 0 := by
  unfold getP at e
  split at e
  · cases e
  · split at e
    · cases e
    · split at e
      · cases e
      · split at e
        · split at e
          · rename_i hc
            simp only [Option.some.injEq] at e
            subst e
            exact hc.2
          · cases e
        · cases e
theorem getF_check {bs : List UInt8} {f : Fm} (e : (getF bs).1 = some f) : checkF f = 0 := by
  unfold getF at e
  split at e
  · cases e
  · split at e
    · rename_i g hg
      simp only [Option.some.injEq] at e
      subst e
      exact getP_check hg
    · cases e
theorem getF_err {bs : List UInt8} (e : (getF bs).1 = none) : (getF bs).2 ≠ 0 := by
  unfold getF at e ⊢
  split
  · rename_i er h1
    have := open_err (bs := bs) (by rw [h1])
    rw [h1] at this
    exact this
  · rename_i ps _ h1
    rw [h1] at e
    simp only at e ⊢
    split
    · rename_i g hg
      rw [hg] at e
      cases e
    · simp

/-- What a frame that may be is like. -/
structure FOk (f : Fm) : Prop where
  src : 1 ≤ f.src ∧ f.src ≤ 1099511627776
  you : 0 ≤ f.you ∧ f.you ≤ 1099511627776
  seq : 0 ≤ f.seq ∧ f.seq ≤ 1099511627776
  ack : 0 ≤ f.ack ∧ f.ack ≤ 1099511627776
  bits : 0 ≤ f.bits ∧ f.bits < 65536
  body : f.body.length ≤ 512
  kind : f.kind = 1 ∨ f.kind = 2 ∨ f.kind = 3
  hello : f.kind = 1 → f.seq = 0 ∧ f.ack = 0 ∧ f.bits = 0 ∧ f.body = []
  data : f.kind = 2 → 1 ≤ f.seq ∧ f.ack = 0 ∧ f.bits = 0
  acks : f.kind = 3 → f.seq = 0 ∧ f.body = []

theorem check_ok {f : Fm} : checkF f = 0 ↔ FOk f := by
  have key : checkF f = 0 ↔ badF f = false := by
    unfold checkF
    cases badF f <;> simp
  rw [key]
  have hb : ∀ x y : Prop, [Decidable x] → [Decidable y] → ((decide x == decide y) = true ↔ (x ↔ y)) := by
    intro x y _ _
    by_cases hx : x <;> by_cases hy : y <;> simp [hx, hy]
  have e2 : (f.kind == 2) = decide (f.kind = 2) := rfl
  have e1 : (f.kind == 1) = decide (f.kind = 1) := rfl
  have e3 : (f.kind == 3) = decide (f.kind = 3) := rfl
  have e4 : ((f.body.length : Int) == 0) = decide ((f.body.length : Int) = 0) := rfl
  have e5 : (f.ack != 0) = decide (f.ack ≠ 0) := by rw [bne, Bool.eq_iff_iff]; simp
  have e6 : (f.bits != 0) = decide (f.bits ≠ 0) := by rw [bne, Bool.eq_iff_iff]; simp
  have e7 : ∀ p : Prop, [Decidable p] → (!decide p) = decide (¬ p) := fun p _ => by by_cases hp : p <;> simp [hp]
  simp only [badF, good3, good2, good1, e1, e2, e3, e4, e5, e6, e7, Bool.or_eq_false_iff, Bool.not_eq_false', Bool.and_eq_true, decide_eq_true_eq, decide_eq_false_iff_not, Bool.or_eq_true, Bool.and_eq_false_iff, hb]
  constructor
  · intro hh
    refine ⟨by omega, by omega, by omega, by omega, by omega, by omega, by omega, fun k => ⟨by omega, by omega, by omega, List.length_eq_zero_iff.1 (by omega)⟩, fun k => by omega, fun k => ⟨by omega, List.length_eq_zero_iff.1 (by omega)⟩⟩
  · intro g
    obtain ⟨g1, g2, g3, g4, g5, g6, g7, g8, g9, g10⟩ := g
    rcases g7 with k | k | k
    · obtain ⟨q1, q2, q3, q4⟩ := g8 k
      have : f.body.length = 0 := by rw [q4]; rfl
      omega
    · have := g9 k
      omega
    · obtain ⟨q1, q2⟩ := g10 k
      have : f.body.length = 0 := by rw [q2]; rfl
      omega

/-! ### Take -/

def Tn.take (T : Tn) (bs : List UInt8) : Tn × List (List UInt8) × Int :=
  match getF bs with
  | (none, e) => (T, [], e)
  | (some f, _) =>
    if f.kind = 1 then (T.hello f, [], 0)
    else if T.up = false ∨ f.src ≠ T.you ∨ f.you ≠ T.me then ((if f.you ≠ T.me ∧ f.src ≥ T.you then T.say (helloM f.src) else T), [], 0)
    else if f.kind = 3 then (Tn.acks { T with silence := 0 } f, [], 0)
    else ((Tn.data { T with silence := 0 } f).1, (Tn.data { T with silence := 0 } f).2, 0)

theorem fm_ds (f : Fm) : f.v (lb f.body) = .agg [.int .i64 f.kind, .int .i64 f.src, .int .i64 f.you, .int .i64 f.seq, .int .i64 f.ack, .int .i64 f.bits, lb f.body] := rfl

set_option maxHeartbeats 1000000 in
theorem take_spec (hG : Nibs G) {t : Nat} {T : Tn} {S : List Nat} (pT : TunR h t T S) (hm : T.me > 0) (he : 0 ≤ T.epoch ∧ T.epoch ≤ 1099511627776) (hx : 0 ≤ T.expect ∧ T.expect ≤ 1099511627776) (hel : T.early.length ≤ 100000) (B : SlB T) (bv : V) (bs : List UInt8) (hb : Rs h 1 bv (bs.map b8)) (hbl : bs.length ≤ 1073741824) (R : V → Heap → Prop)
    (hR : ∀ v h' S' Sg, TunR h' t (T.take bs).1 S' → Up h h' S S' → Row h' Sg 27 1 ((T.take bs).2.1.map lb) v → (∀ k ∈ Sg, h.next ≤ k ∧ k ∉ S') → R (.tup [v, .int .i64 (T.take bs).2.2]) h') : Calls0 Tryd.prog G 79 [.ptr t 0 0, bv] h R := by
  have pp := pT
  obtain ⟨wv, qv, ev, ov, So, Sm, p, hS⟩ := pp
  refine fn_walk mixed fn79uis [] rfl ?_
  have hout : T.out.length ≤ 1000000 := by have := B.ol; omega
  simp only [go_sem, true_and, and_true, ↓reduceIte, Nat.reduceEqDiff, Nat.reduceAdd, Bool.not_true, Bool.not_false, List.getElem?_cons_zero, List.getElem?_cons_succ, decide_true, decide_false, Bool.false_eq_true, fn79]
  refine made_spec p _ ?_
  simp only [go_sem, true_and, and_true, ↓reduceIte, Nat.reduceEqDiff, Nat.reduceAdd, Bool.not_true, Bool.not_false, List.getElem?_cons_zero, List.getElem?_cons_succ, decide_true, decide_false, Bool.false_eq_true, hm, fn79u8]
  refine get_spec hG bv bs hb hbl _ ?_ ?_
  · intro g h1 f1
    have ge := getF_err g
    have ge' : ((getF bs).2 != 0) = true := by simpa using ge
    have ht : T.take bs = (T, [], (getF bs).2) := by
      unfold Tn.take
      cases q : getF bs with
      | mk x y => rw [q] at g; simp only at g; subst g; rfl
    rw [ht] at hR
    simp only [go_sem, true_and, and_true, ↓reduceIte, Nat.reduceEqDiff, Nat.reduceAdd, Bool.not_true, Bool.not_false, List.getElem?_cons_zero, List.getElem?_cons_succ, decide_true, decide_false, Bool.false_eq_true]
    refine go_box (v := .agg zeroF) rfl rfl rfl ?_
    intro h2 f2 e2
    simp only [go_sem, true_and, and_true, ↓reduceIte, Nat.reduceEqDiff, Nat.reduceAdd, Bool.not_true, Bool.not_false, List.getElem?_cons_zero, List.getElem?_cons_succ, decide_true, decide_false, Bool.false_eq_true]
    refine go_storeA (ds := zeroF) e2 rfl rfl rfl rfl (by decide) ?_
    intro h3 f3 n3 e3
    simp only [go_sem, true_and, and_true, ↓reduceIte, Nat.reduceEqDiff, Nat.reduceAdd, Bool.not_true, Bool.not_false, List.getElem?_cons_zero, List.getElem?_cons_succ, decide_true, decide_false, Bool.false_eq_true, ge']
    have f13 : Fr [] h h3 := (f1.trans f2 (by simp)).trans f3 (fun k hk => .inr (by simp at hk; have := f1.next; omega))
    exact hR .nil h3 S [] (pT.new f13 (by simp)) ⟨f13.mono (by simp), fun _ hk => .inl hk⟩ Row.nil (by simp)
  · intro f g h1 f1
    have fo := check_ok.1 (getF_check g)
    have ne0 : ((0 : Int) != 0) = false := rfl
    simp only [go_sem, true_and, and_true, ↓reduceIte, Nat.reduceEqDiff, Nat.reduceAdd, Bool.not_true, Bool.not_false, List.getElem?_cons_zero, List.getElem?_cons_succ, decide_true, decide_false, Bool.false_eq_true]
    refine go_box (v := .agg zeroF) rfl rfl rfl ?_
    intro h2 f2 e2
    simp only [go_sem, true_and, and_true, ↓reduceIte, Nat.reduceEqDiff, Nat.reduceAdd, Bool.not_true, Bool.not_false, List.getElem?_cons_zero, List.getElem?_cons_succ, decide_true, decide_false, Bool.false_eq_true]
    refine go_storeA (ds := [.int .i64 f.kind, .int .i64 f.src, .int .i64 f.you, .int .i64 f.seq, .int .i64 f.ack, .int .i64 f.bits, lb f.body]) e2 rfl ?_ rfl rfl (by simp [V.one, lb]) ?_
    · simp only [go_sem, true_and, and_true, ↓reduceIte, Nat.reduceEqDiff, Nat.reduceAdd, Bool.not_true, Bool.not_false, List.getElem?_cons_zero, List.getElem?_cons_succ, decide_true, decide_false, Bool.false_eq_true]
      rfl
    intro h3 f3 n3 e3
    have f13 : Fr [] h h3 := (f1.trans f2 (by simp)).trans f3 (fun k hk => .inr (by simp at hk; have := f1.next; omega))
    have p3 := p.new f13 (by simp)
    have pR : TunR h3 t T S := pT.new f13 (by simp)
    have u3 : Up h h3 S S := ⟨f13.mono (by simp), fun _ hk => .inl hk⟩
    have fot : t < h1.next := Nat.lt_of_lt_of_le (p.lt t (by simp)) f1.next
    have ht : T.take bs = if f.kind = 1 then (T.hello f, [], 0)
        else if T.up = false ∨ f.src ≠ T.you ∨ f.you ≠ T.me then ((if f.you ≠ T.me ∧ f.src ≥ T.you then T.say (helloM f.src) else T), [], 0)
        else if f.kind = 3 then (Tn.acks { T with silence := 0 } f, [], 0)
        else ((Tn.data { T with silence := 0 } f).1, (Tn.data { T with silence := 0 } f).2, 0) := by
      unfold Tn.take
      cases q : getF bs with
      | mk x y => rw [q] at g; simp only at g; subst g; rfl
    rw [ht] at hR
    generalize h1.next = fo' at *
    have l0 : loadV h3 false 1 (.ptr fo' 0 0) = some (.int .i64 f.kind) := ld0 e3 rfl
    have l1 : loadV h3 false 1 (.ptr fo' 0 1) = some (.int .i64 f.src) := ld0 e3 rfl
    have l2 : loadV h3 false 1 (.ptr fo' 0 2) = some (.int .i64 f.you) := ld0 e3 rfl
    have lA : loadV h3 true 7 (.ptr fo' 0 0) = some (f.v (lb f.body)) := ldA e3 rfl
    have m0 : loadV h3 false 1 (.ptr t 0 0) = some (.bool T.up) := ld0 p3.obj rfl
    have m7 : loadV h3 false 1 (.ptr t 0 7) = some (.int .i64 T.me) := ld0 p3.obj rfl
    have m8 : loadV h3 false 1 (.ptr t 0 8) = some (.int .i64 T.you) := ld0 p3.obj rfl
    simp only [go_sem, true_and, and_true, ↓reduceIte, Nat.reduceEqDiff, Nat.reduceAdd, Bool.not_true, Bool.not_false, List.getElem?_cons_zero, List.getElem?_cons_succ, decide_true, decide_false, Bool.false_eq_true, ne0, fn79u7, l0]
    by_cases c1 : f.kind = 1
    · have c1' : (f.kind == 1) = true := by simpa using c1
      rw [if_pos c1] at hR
      simp only [go_sem, true_and, and_true, ↓reduceIte, Nat.reduceEqDiff, Nat.reduceAdd, Bool.not_true, Bool.not_false, List.getElem?_cons_zero, List.getElem?_cons_succ, decide_true, decide_false, Bool.false_eq_true, c1', lA]
      refine hello_spec hG pR hout he f (lb f.body) rfl _ ?_
      intro h4 S4 q4 u4
      simp only [go_sem, true_and, and_true, ↓reduceIte, Nat.reduceEqDiff, Nat.reduceAdd, Bool.not_true, Bool.not_false, List.getElem?_cons_zero, List.getElem?_cons_succ, decide_true, decide_false, Bool.false_eq_true]
      exact hR .nil h4 S4 [] q4 (u3.trans u4) Row.nil (by simp)
    · have c1' : (f.kind == 1) = false := by simpa using c1
      rw [if_neg c1] at hR
      -- a stranger's
      have stranger : (T.up = false ∨ f.src ≠ T.you ∨ f.you ≠ T.me) → ∀ a : Tm, a 0 = .ptr t 0 0 → a 6 = .ptr fo' 0 0 → a 48 = .bool true → wpC (Calls0 Tryd.prog G) G [] fn79u3 (thenQ (wpC (Calls0 Tryd.prog G) G [] fn79u5 (postF R [.tmp 4, .tmp 5])) (postF R [.tmp 4, .tmp 5])) a h3 := by
        intro c a a0 a6 a48
        rw [if_pos c] at hR
        by_cases c2 : f.you = T.me
        · have c2' : (f.you != T.me) = false := by simpa using c2
          rw [if_neg (fun hh => hh.1 c2)] at hR
          simp only [go_sem, true_and, and_true, ↓reduceIte, Nat.reduceEqDiff, Nat.reduceAdd, Bool.not_true, Bool.not_false, List.getElem?_cons_zero, List.getElem?_cons_succ, decide_true, decide_false, Bool.false_eq_true, fn79u3, a0, a6, a48, l2, m7, c2', fn79u1, fn79u2]
          exact hR .nil h3 S [] pR u3 Row.nil (by simp)
        · have c2' : (f.you != T.me) = true := by simpa using c2
          by_cases c3 : f.src ≥ T.you
          · rw [if_pos ⟨c2, c3⟩] at hR
            simp only [go_sem, true_and, and_true, ↓reduceIte, Nat.reduceEqDiff, Nat.reduceAdd, Bool.not_true, Bool.not_false, List.getElem?_cons_zero, List.getElem?_cons_succ, decide_true, decide_false, Bool.false_eq_true, fn79u3, a0, a6, a48, l1, l2, m7, m8, c2', c3, fn79u1, fn79u2]
            refine go_build (cs := [.int .i64 1, .int .i64 0, .int .i64 f.src, .int .i64 0, .int .i64 0, .int .i64 0, .nil]) rfl ?_
            simp only [go_sem, true_and, and_true, ↓reduceIte, Nat.reduceEqDiff, Nat.reduceAdd, Bool.not_true, Bool.not_false, List.getElem?_cons_zero, List.getElem?_cons_succ, decide_true, decide_false, Bool.false_eq_true, a0]
            refine say_spec hG pR hout (helloM f.src) .nil Rs.nil rfl _ ?_
            intro h4 S4 q4 u4
            simp only [go_sem, true_and, and_true, ↓reduceIte, Nat.reduceEqDiff, Nat.reduceAdd, Bool.not_true, Bool.not_false, List.getElem?_cons_zero, List.getElem?_cons_succ, decide_true, decide_false, Bool.false_eq_true]
            exact hR .nil h4 S4 [] q4 (u3.trans u4) Row.nil (by simp)
          · rw [if_neg (fun hh => c3 hh.2)] at hR
            simp only [go_sem, true_and, and_true, ↓reduceIte, Nat.reduceEqDiff, Nat.reduceAdd, Bool.not_true, Bool.not_false, List.getElem?_cons_zero, List.getElem?_cons_succ, decide_true, decide_false, Bool.false_eq_true, fn79u3, a0, a6, a48, l1, l2, m7, m8, c2', c3, fn79u1, fn79u2]
            exact hR .nil h3 S [] pR u3 Row.nil (by simp)
      cases hu : T.up with
      | false =>
        simp only [go_sem, true_and, and_true, ↓reduceIte, Nat.reduceEqDiff, Nat.reduceAdd, Bool.not_true, Bool.not_false, List.getElem?_cons_zero, List.getElem?_cons_succ, decide_true, decide_false, Bool.false_eq_true, c1', fn79u6, m0, hu]
        refine stranger (.inl hu) _ ?_ ?_ ?_ <;> simp only [go_sem, true_and, and_true, ↓reduceIte, Nat.reduceEqDiff, Nat.reduceAdd, Bool.not_true, Bool.not_false, List.getElem?_cons_zero, List.getElem?_cons_succ, decide_true, decide_false, Bool.false_eq_true]
      | true =>
        by_cases c2 : f.src = T.you
        · have c2' : (f.src != T.you) = false := by simpa using c2
          by_cases c3 : f.you = T.me
          · have c3' : (f.you != T.me) = false := by simpa using c3
            rw [if_neg (fun hh => by rcases hh with hh | hh | hh; rw [hu] at hh; cases hh; exact hh c2; exact hh c3)] at hR
            simp only [go_sem, true_and, and_true, ↓reduceIte, Nat.reduceEqDiff, Nat.reduceAdd, Bool.not_true, Bool.not_false, List.getElem?_cons_zero, List.getElem?_cons_succ, decide_true, decide_false, Bool.false_eq_true, c1', fn79u6, m0, hu, l1, l2, m7, m8, c2', c3', fn79u3, fn79u5]
            refine go_store0 (v := .int .i64 0) (sub := 1) p3.obj rfl rfl rfl (by simp [tunC]) ?_
            intro h4 f4 n4 e4
            simp only [tunC, List.set_cons_zero, List.set_cons_succ] at e4
            have p4 := p3.put (T' := { T with silence := 0 }) f4 e4 p3.way p3.queue rfl rfl rfl
            have u4 : Up h h4 S S := ⟨(f13.mono (by simp)).trans f4 (by rw [hS]; simp), fun _ hk => .inl hk⟩
            have e34 := f4.at e3 (by simp; omega)
            have k0 : loadV h4 false 1 (.ptr fo' 0 0) = some (.int .i64 f.kind) := ld0 e34 rfl
            have kA : loadV h4 true 7 (.ptr fo' 0 0) = some (f.v (lb f.body)) := ldA e34 rfl
            have q4 : TunR h4 t { T with silence := 0 } S := ⟨_, _, _, _, _, _, p4, hS⟩
            by_cases c4 : f.kind = 3
            · have c4' : (f.kind == 3) = true := by simpa using c4
              rw [if_pos c4] at hR
              simp only [go_sem, true_and, and_true, ↓reduceIte, Nat.reduceEqDiff, Nat.reduceAdd, Bool.not_true, Bool.not_false, List.getElem?_cons_zero, List.getElem?_cons_succ, decide_true, decide_false, Bool.false_eq_true, k0, c4', kA]
              refine ack_spec hG q4 ⟨B.n0, B.n1, B.w0, B.wl, B.ol, B.bl⟩ f (lb f.body) rfl fo.ack _ ?_
              intro h5 S5 q5 u5
              simp only [go_sem, true_and, and_true, ↓reduceIte, Nat.reduceEqDiff, Nat.reduceAdd, Bool.not_true, Bool.not_false, List.getElem?_cons_zero, List.getElem?_cons_succ, decide_true, decide_false, Bool.false_eq_true]
              exact hR .nil h5 S5 [] q5 (u4.trans u5) Row.nil (by simp)
            · have c4' : (f.kind == 3) = false := by simpa using c4
              rw [if_neg c4] at hR
              simp only [go_sem, true_and, and_true, ↓reduceIte, Nat.reduceEqDiff, Nat.reduceAdd, Bool.not_true, Bool.not_false, List.getElem?_cons_zero, List.getElem?_cons_succ, decide_true, decide_false, Bool.false_eq_true, k0, c4', fn79u4, kA]
              refine data_spec hG q4 hu hout hx hel f fo.seq _ ?_
              intro v h5 S5 Sg q5 u5 r5 s5
              simp only [go_sem, true_and, and_true, ↓reduceIte, Nat.reduceEqDiff, Nat.reduceAdd, Bool.not_true, Bool.not_false, List.getElem?_cons_zero, List.getElem?_cons_succ, decide_true, decide_false, Bool.false_eq_true]
              exact hR v h5 S5 Sg q5 (u4.trans u5) r5 (fun k hk => ⟨Nat.le_trans u4.fr.next (s5 k hk).1, (s5 k hk).2⟩)
          · have c3' : (f.you != T.me) = true := by simpa using c3
            simp only [go_sem, true_and, and_true, ↓reduceIte, Nat.reduceEqDiff, Nat.reduceAdd, Bool.not_true, Bool.not_false, List.getElem?_cons_zero, List.getElem?_cons_succ, decide_true, decide_false, Bool.false_eq_true, c1', fn79u6, m0, hu, l1, l2, m7, m8, c2', c3']
            refine stranger (.inr (.inr c3)) _ ?_ ?_ ?_ <;> simp only [go_sem, true_and, and_true, ↓reduceIte, Nat.reduceEqDiff, Nat.reduceAdd, Bool.not_true, Bool.not_false, List.getElem?_cons_zero, List.getElem?_cons_succ, decide_true, decide_false, Bool.false_eq_true]
        · have c2' : (f.src != T.you) = true := by simpa using c2
          simp only [go_sem, true_and, and_true, ↓reduceIte, Nat.reduceEqDiff, Nat.reduceAdd, Bool.not_true, Bool.not_false, List.getElem?_cons_zero, List.getElem?_cons_succ, decide_true, decide_false, Bool.false_eq_true, c1', fn79u6, m0, hu, l1, l2, m7, m8, c2']
          refine stranger (.inr (.inl c2)) _ ?_ ?_ ?_ <;> simp only [go_sem, true_and, and_true, ↓reduceIte, Nat.reduceEqDiff, Nat.reduceAdd, Bool.not_true, Bool.not_false, List.getElem?_cons_zero, List.getElem?_cons_succ, decide_true, decide_false, Bool.false_eq_true]

end Go.Am

/- tunnel: Tick. -/
namespace Go.Am
open Go.Proofs
variable {G : Nat → V} {h h' h'' : Heap}

def aged (s : Int × List UInt8 × Int) : Int × List UInt8 × Int := (s.1, s.2.1, s.2.2 + 1)
/-- What is said again of what is on the way. -/
def Tn.again (T : Tn) : List (Int × List UInt8 × Int) → Tn
  | [] => T
  | s :: l => Tn.again (if (s.2.2 + 1).tmod 4 = 0 then T.say (dataM T.you s.1 s.2.1) else T) l
def Tn.ages (T : Tn) : Tn := { T.again T.way with way := T.way.map aged }
def Tn.tick1 (T : Tn) : Tn := { T with ticks := T.ticks + 1 }
def Tn.tick2 (T : Tn) : Tn := { T with silence := T.silence + 1 }
def Tn.tick3 (T : Tn) : Tn := if T.ticks.tmod 8 = 0 then T.say (helloM T.you) else T
def Tn.tick (T : Tn) : Tn :=
  if T.up = false then (if T.tick1.you > 0 ∧ T.tick1.ticks.tmod 4 = 0 then T.tick1.say (helloM T.you) else T.tick1)
  else if T.tick1.tick2.silence ≥ 64 then T.tick1.tick2.stop
  else T.tick1.tick2.tick3.ages

theorem again_keep : ∀ (l : List (Int × List UInt8 × Int)) (T : Tn), (T.again l).up = T.up ∧ (T.again l).you = T.you ∧ (T.again l).me = T.me ∧ (T.again l).way = T.way ∧ (T.again l).queue = T.queue ∧ (T.again l).out.length ≤ T.out.length + l.length
  | [], T => ⟨rfl, rfl, rfl, rfl, rfl, Nat.le_refl _⟩
  | s :: l, T => by
    obtain ⟨q1, q2, q3, q4, q5, q6⟩ := again_keep l (if (s.2.2 + 1).tmod 4 = 0 then T.say (dataM T.you s.1 s.2.1) else T)
    simp only [Tn.again]
    refine ⟨q1.trans ?_, q2.trans ?_, q3.trans ?_, q4.trans ?_, q5.trans ?_, Nat.le_trans q6 ?_⟩
    all_goals split <;> first | rfl | (simp [Tn.say]; done) | (simp [Tn.say]; omega) | (simp; omega)

theorem again_snoc : ∀ (l : List (Int × List UInt8 × Int)) (T : Tn) (s : Int × List UInt8 × Int), T.again (l ++ [s]) = (if (s.2.2 + 1).tmod 4 = 0 then (T.again l).say (dataM T.you s.1 s.2.1) else T.again l)
  | [], T, s => rfl
  | x :: l, T, s => by
    simp only [List.cons_append, Tn.again]
    rw [again_snoc l _ s]
    congr 2
    split <;> rfl

theorem set_mid {α : Type} (xs ys : List α) (x y : α) : (xs ++ x :: ys).set xs.length y = xs ++ y :: ys := by simp

set_option maxHeartbeats 1000000 in
/-- The loop over what is on the way, and what follows. -/
theorem age_walk (hG : Nibs G) {t : Nat} {T : Tn} {S : List Nat} (pT : TunR h t T S) (hb : T.out.length ≤ 100000) (hw : T.way.length ≤ 100000) (hs : ∀ s ∈ T.way, 0 ≤ s.2.2 ∧ s.2.2 ≤ 1099511627776) (a : Tm) (a0 : a 0 = .ptr t 0 0) (R : V → Heap → Prop)
    (hR : ∀ h' S', TunR h' t T.ages S' → Up h h' S S' → R (.tup []) h') : wpC (Calls0 Tryd.prog G) G [115] fn54u6 (postF R []) a h := by
  have pp := pT
  obtain ⟨wv, qv, ev, ov, So, Sm, p, hS⟩ := pp
  have l3 : loadV h false 1 (.ptr t 0 3) = some wv := ld0 p.obj rfl
  have d4 : (4 : Int) ≠ 0 := by decide
  simp only [go_sem, true_and, and_true, ↓reduceIte, Nat.reduceEqDiff, Nat.reduceAdd, Bool.not_true, Bool.not_false, List.getElem?_cons_zero, List.getElem?_cons_succ, decide_true, decide_false, Bool.false_eq_true, fn54u6, a0, l3]
  refine clone81 (l := T.way) p.way.read (by omega) _ ?_
  intro v1 h1 w1
  have ln := w1.len
  rw [List.length_map] at ln
  obtain ⟨f1, Sw, r1, s1⟩ := w1
  simp only [go_sem, true_and, and_true, ↓reduceIte, Nat.reduceEqDiff, Nat.reduceAdd, Bool.not_true, Bool.not_false, List.getElem?_cons_zero, List.getElem?_cons_succ, decide_true, decide_false, Bool.false_eq_true, a0, ln]
  have p1 := pT.new f1 (by simp)
  refine w_loop (fun a h' n => a 0 = .ptr t 0 0 ∧ a 77 = .int .i64 T.way.length ∧ ∃ pre post S', T.way = pre ++ post ∧ post.length = n ∧ a 78 = .int .i64 (pre.length : Int) ∧ TunR h' t (T.again pre) S' ∧ Up h h' S S' ∧ Row h' Sw 140 3 ((pre.map aged ++ post).map sentV) (a 2) ∧ (∀ k ∈ Sw, k ∉ S')) T.way.length ?_ ?_
  · refine ⟨?_, ?_, [], T.way, S, rfl, rfl, ?_, p1, ⟨f1.mono (by simp), fun _ hk => .inl hk⟩, ?_, ?_⟩
    · simp only [go_sem, true_and, and_true, ↓reduceIte, Nat.reduceEqDiff, Nat.reduceAdd, Bool.not_true, Bool.not_false, List.getElem?_cons_zero, List.getElem?_cons_succ, decide_true, decide_false, Bool.false_eq_true, a0]
    · simp only [go_sem, true_and, and_true, ↓reduceIte, Nat.reduceEqDiff, Nat.reduceAdd, Bool.not_true, Bool.not_false, List.getElem?_cons_zero, List.getElem?_cons_succ, decide_true, decide_false, Bool.false_eq_true]
    · simp only [go_sem, true_and, and_true, ↓reduceIte, Nat.reduceEqDiff, Nat.reduceAdd, Bool.not_true, Bool.not_false, List.getElem?_cons_zero, List.getElem?_cons_succ, decide_true, decide_false, Bool.false_eq_true]
      rfl
    · simp only [go_sem, true_and, and_true, ↓reduceIte, Nat.reduceEqDiff, Nat.reduceAdd, Bool.not_true, Bool.not_false, List.getElem?_cons_zero, List.getElem?_cons_succ, decide_true, decide_false, Bool.false_eq_true]
      simpa using r1
    · intro k hk hm
      have := pT.lt k hm
      have := s1 k hk
      omega
  · rintro a h2 n ⟨a0, a77, pre, post, S2, hl, hn, a78, q2, u2, r2, d2⟩
    obtain ⟨k1, k2, k3, k4, k5, k6⟩ := again_keep pre T
    have hlen : T.way.length = pre.length + n := by rw [hl, List.length_append, hn]
    cases post with
    | nil =>
      simp only [List.length_nil] at hn
      subst hn
      have ci : ¬ (pre.length : Int) < (T.way.length : Int) := by omega
      simp only [go_sem, true_and, and_true, ↓reduceIte, Nat.reduceEqDiff, Nat.reduceAdd, Bool.not_true, Bool.not_false, List.getElem?_cons_zero, List.getElem?_cons_succ, decide_true, decide_false, Bool.false_eq_true, fn54u4, fn54u5, a0, a77, a78, ci]
      have hpre : pre = T.way := by rw [hl]; simp
      subst hpre
      rw [List.append_nil] at r2
      refine frz_row r2 ?_
      intro h3 f3 n3
      have q3 := q2.fr f3 (fun k hk hm => d2 k hm hk)
      obtain ⟨wv3, qv3, ev3, ov3, So3, Sm3, p3, hS3⟩ := q3
      simp only [go_sem, true_and, and_true, ↓reduceIte, Nat.reduceEqDiff, Nat.reduceAdd, Bool.not_true, Bool.not_false, List.getElem?_cons_zero, List.getElem?_cons_succ, decide_true, decide_false, Bool.false_eq_true, a0]
      refine go_store0 (v := .lst ((T.way.map aged).map sentV)) (sub := 3) p3.obj ?_ ?_ rfl (by simp [tunC]) ?_
      · simp only [go_sem, true_and, and_true, ↓reduceIte, Nat.reduceEqDiff, Nat.reduceAdd, Bool.not_true, Bool.not_false, List.getElem?_cons_zero, List.getElem?_cons_succ, decide_true, decide_false, Bool.false_eq_true, a0]
      · simp only [go_sem, true_and, and_true, ↓reduceIte, Nat.reduceEqDiff, Nat.reduceAdd, Bool.not_true, Bool.not_false, List.getElem?_cons_zero, List.getElem?_cons_succ, decide_true, decide_false, Bool.false_eq_true]
      intro h4 f4 n4 e4
      simp only [tunC, List.set_cons_zero, List.set_cons_succ] at e4
      have p4 := p3.put (T' := T.ages) f4 e4 (.inl rfl) p3.queue rfl rfl rfl
      simp only [go_sem, true_and, and_true, ↓reduceIte, Nat.reduceEqDiff, Nat.reduceAdd, Bool.not_true, Bool.not_false, List.getElem?_cons_zero, List.getElem?_cons_succ, decide_true, decide_false, Bool.false_eq_true]
      refine hR h4 S2 ⟨_, _, _, _, _, _, p4, hS3⟩ ⟨?_, u2.sub⟩
      have f23 : Fr S h h3 := u2.fr.trans f3 (fun k hk => .inr (s1 k hk))
      exact f23.trans f4 (fun k hk => by simp at hk; subst hk; exact u2.sub _ (by rw [hS3]; simp))
    | cons s post =>
      simp only [List.length_cons] at hn
      subst hn
      have ci : (pre.length : Int) < (T.way.length : Int) := by omega
      have hsm : s ∈ T.way := by rw [hl]; simp
      obtain ⟨b1, b2⟩ := hs s hsm
      have wa : IntKind.i64.wrap (s.2.2 + 1) = s.2.2 + 1 := wrap64 (by omega) (by omega)
      have wi : IntKind.i64.wrap ((pre.length : Int) + 1) = ((pre.length + 1 : Nat) : Int) := by rw [wrap64 (by omega) (by omega)]; omega
      rcases r2 with ⟨_, e, _⟩ | ⟨o, hSw, hv, ho⟩
      · simp at e
      generalize hrl : ((pre.map aged ++ s :: post).map sentV).length = rl at hv
      have hrl' : rl = T.way.length := by rw [← hrl, hl]; simp
      subst hrl'
      have el : ((pre.map aged ++ s :: post).map sentV)[pre.length]? = some (sentV s) := by
        rw [List.getElem?_map, List.getElem?_append_right (by simp)]
        simp
      have lo : loadV h2 false 1 (.ptr o pre.length 2) = some (.int .i64 s.2.2) := by simp only [loadV, ho, el]; rfl
      simp only [go_sem, true_and, and_true, ↓reduceIte, Nat.reduceEqDiff, Nat.reduceAdd, Bool.not_true, Bool.not_false, List.getElem?_cons_zero, List.getElem?_cons_succ, decide_true, decide_false, Bool.false_eq_true, fn54u4, fn54u3, a0, a77, a78, ci, hv]
      refine go_iaddrO (len := T.way.length) (room := T.way.length) (k := .i64) (n := pre.length) ho ?_ ?_ (by omega) (by rw [hrl]; omega) ?_
      · simp only [go_sem, true_and, and_true, ↓reduceIte, Nat.reduceEqDiff, Nat.reduceAdd, Bool.not_true, Bool.not_false, List.getElem?_cons_zero, List.getElem?_cons_succ, decide_true, decide_false, Bool.false_eq_true, hv]
      · simp only [go_sem, true_and, and_true, ↓reduceIte, Nat.reduceEqDiff, Nat.reduceAdd, Bool.not_true, Bool.not_false, List.getElem?_cons_zero, List.getElem?_cons_succ, decide_true, decide_false, Bool.false_eq_true, a78]
      simp only [go_sem, true_and, and_true, ↓reduceIte, Nat.reduceEqDiff, Nat.reduceAdd, Bool.not_true, Bool.not_false, List.getElem?_cons_zero, List.getElem?_cons_succ, decide_true, decide_false, Bool.false_eq_true, lo, wa, a78, hv]
      refine go_iaddrO (len := T.way.length) (room := T.way.length) (k := .i64) (n := pre.length) ho ?_ ?_ (by omega) (by rw [hrl]; omega) ?_
      · simp only [go_sem, true_and, and_true, ↓reduceIte, Nat.reduceEqDiff, Nat.reduceAdd, Bool.not_true, Bool.not_false, List.getElem?_cons_zero, List.getElem?_cons_succ, decide_true, decide_false, Bool.false_eq_true, hv]
      · simp only [go_sem, true_and, and_true, ↓reduceIte, Nat.reduceEqDiff, Nat.reduceAdd, Bool.not_true, Bool.not_false, List.getElem?_cons_zero, List.getElem?_cons_succ, decide_true, decide_false, Bool.false_eq_true, a78]
      simp only [go_sem, true_and, and_true, ↓reduceIte, Nat.reduceEqDiff, Nat.reduceAdd, Bool.not_true, Bool.not_false, List.getElem?_cons_zero, List.getElem?_cons_succ, decide_true, decide_false, Bool.false_eq_true]
      refine go_store (v := .int .i64 (s.2.2 + 1)) (k := pre.length) (sub := 2) (cs := [.int .i64 s.1, lb s.2.1, .int .i64 s.2.2]) ?_ ?_ rfl ho el (by simp) ?_
      · simp only [go_sem, true_and, and_true, ↓reduceIte, Nat.reduceEqDiff, Nat.reduceAdd, Bool.not_true, Bool.not_false, List.getElem?_cons_zero, List.getElem?_cons_succ, decide_true, decide_false, Bool.false_eq_true]
      · simp only [go_sem, true_and, and_true, ↓reduceIte, Nat.reduceEqDiff, Nat.reduceAdd, Bool.not_true, Bool.not_false, List.getElem?_cons_zero, List.getElem?_cons_succ, decide_true, decide_false, Bool.false_eq_true]
      intro h3 f3 n3 e3
      have e3' : h3.obj o = some (.arr 140 3 ((pre.map aged ++ aged s :: post).map sentV)) := by
        rw [e3]
        congr 3
        have hm1 : (pre.map aged ++ s :: post).map sentV = (pre.map aged).map sentV ++ sentV s :: post.map sentV := by simp
        have hm2 : (pre.map aged ++ aged s :: post).map sentV = (pre.map aged).map sentV ++ sentV (aged s) :: post.map sentV := by simp
        have hm3 : pre.length = ((pre.map aged).map sentV).length := by simp
        rw [hm1, hm2, hm3, set_mid]
        rfl
      have el3 : ((pre.map aged ++ aged s :: post).map sentV)[pre.length]? = some (sentV (aged s)) := by
        rw [List.getElem?_map, List.getElem?_append_right (by simp)]
        simp
      have hrl3 : ((pre.map aged ++ aged s :: post).map sentV).length = T.way.length := by rw [← hrl]; simp
      have oS : o ∉ S2 := d2 o (by rw [hSw]; simp)
      have q3 := q2.fr f3 (fun k hk hm => oS (by simp at hm; exact hm ▸ hk))
      have u3 : Up h h3 S S2 := ⟨u2.fr.trans f3 (fun k hk => .inr (by simp at hk; subst hk; exact s1 _ (by rw [hSw]; simp))), u2.sub⟩
      have lo3 : ∀ m y, m < 3 → [V.int .i64 s.1, lb s.2.1, .int .i64 (s.2.2 + 1)][m]? = some y → loadV h3 false 1 (.ptr o pre.length m) = some y := by
        intro m y hm hy
        simp only [loadV, e3', el3]
        exact hy
      have j0 := lo3 0 _ (by omega) rfl
      have j1 := lo3 1 _ (by omega) rfl
      have j2 := lo3 2 _ (by omega) rfl
      simp only [go_sem, true_and, and_true, ↓reduceIte, Nat.reduceEqDiff, Nat.reduceAdd, Bool.not_true, Bool.not_false, List.getElem?_cons_zero, List.getElem?_cons_succ, decide_true, decide_false, Bool.false_eq_true, a0, a78, hv]
      refine go_iaddrO (len := T.way.length) (room := T.way.length) (k := .i64) (n := pre.length) e3' ?_ ?_ (by omega) (by rw [hrl3]; omega) ?_
      · simp only [go_sem, true_and, and_true, ↓reduceIte, Nat.reduceEqDiff, Nat.reduceAdd, Bool.not_true, Bool.not_false, List.getElem?_cons_zero, List.getElem?_cons_succ, decide_true, decide_false, Bool.false_eq_true, hv]
      · simp only [go_sem, true_and, and_true, ↓reduceIte, Nat.reduceEqDiff, Nat.reduceAdd, Bool.not_true, Bool.not_false, List.getElem?_cons_zero, List.getElem?_cons_succ, decide_true, decide_false, Bool.false_eq_true, a78]
      have row3 : Row h3 Sw 140 3 ((((pre ++ [s]).map aged) ++ post).map sentV) (.slc o 0 T.way.length T.way.length) := by
        have hm4 : ((pre ++ [s]).map aged) ++ post = pre.map aged ++ aged s :: post := by simp
        rw [hm4]
        exact .inr ⟨o, hSw, by rw [hrl3], e3'⟩
      have hpost : T.way = (pre ++ [s]) ++ post := by rw [hl]; simp
      have hag := again_snoc pre T s
      by_cases c4 : (s.2.2 + 1).tmod 4 = 0
      · have c4' : ((s.2.2 + 1).tmod 4 == 0) = true := by simpa using c4
        rw [if_pos c4] at hag
        obtain ⟨wv3, qv3, ev3, ov3, So3, Sm3, p3, hS3⟩ := q3
        have m8 : loadV h3 false 1 (.ptr t 0 8) = some (.int .i64 (T.again pre).you) := ld0 p3.obj rfl
        simp only [go_sem, true_and, and_true, ↓reduceIte, Nat.reduceEqDiff, Nat.reduceAdd, Bool.not_true, Bool.not_false, List.getElem?_cons_zero, List.getElem?_cons_succ, decide_true, decide_false, Bool.false_eq_true, j2, d4, ne_eq, not_false_eq_true, c4', a0, a78, hv, m8]
        refine go_iaddrO (len := T.way.length) (room := T.way.length) (k := .i64) (n := pre.length) e3' ?_ ?_ (by omega) (by rw [hrl3]; omega) ?_
        · simp only [go_sem, true_and, and_true, ↓reduceIte, Nat.reduceEqDiff, Nat.reduceAdd, Bool.not_true, Bool.not_false, List.getElem?_cons_zero, List.getElem?_cons_succ, decide_true, decide_false, Bool.false_eq_true, hv]
        · simp only [go_sem, true_and, and_true, ↓reduceIte, Nat.reduceEqDiff, Nat.reduceAdd, Bool.not_true, Bool.not_false, List.getElem?_cons_zero, List.getElem?_cons_succ, decide_true, decide_false, Bool.false_eq_true, a78]
        simp only [go_sem, true_and, and_true, ↓reduceIte, Nat.reduceEqDiff, Nat.reduceAdd, Bool.not_true, Bool.not_false, List.getElem?_cons_zero, List.getElem?_cons_succ, decide_true, decide_false, Bool.false_eq_true, j0, a78, hv]
        refine go_iaddrO (len := T.way.length) (room := T.way.length) (k := .i64) (n := pre.length) e3' ?_ ?_ (by omega) (by rw [hrl3]; omega) ?_
        · simp only [go_sem, true_and, and_true, ↓reduceIte, Nat.reduceEqDiff, Nat.reduceAdd, Bool.not_true, Bool.not_false, List.getElem?_cons_zero, List.getElem?_cons_succ, decide_true, decide_false, Bool.false_eq_true, hv]
        · simp only [go_sem, true_and, and_true, ↓reduceIte, Nat.reduceEqDiff, Nat.reduceAdd, Bool.not_true, Bool.not_false, List.getElem?_cons_zero, List.getElem?_cons_succ, decide_true, decide_false, Bool.false_eq_true, a78]
        simp only [go_sem, true_and, and_true, ↓reduceIte, Nat.reduceEqDiff, Nat.reduceAdd, Bool.not_true, Bool.not_false, List.getElem?_cons_zero, List.getElem?_cons_succ, decide_true, decide_false, Bool.false_eq_true, j1]
        refine go_build (cs := [.int .i64 2, .int .i64 0, .int .i64 (T.again pre).you, .int .i64 s.1, .int .i64 0, .int .i64 0, lb s.2.1]) rfl ?_
        simp only [go_sem, true_and, and_true, ↓reduceIte, Nat.reduceEqDiff, Nat.reduceAdd, Bool.not_true, Bool.not_false, List.getElem?_cons_zero, List.getElem?_cons_succ, decide_true, decide_false, Bool.false_eq_true, a0]
        refine say_spec hG ⟨_, _, _, _, _, _, p3, hS3⟩ (by omega) (dataM (T.again pre).you s.1 s.2.1) (lb s.2.1) (lb_rs _) rfl _ ?_
        intro h4 S4 q4 u4
        simp only [go_sem, true_and, and_true, ↓reduceIte, Nat.reduceEqDiff, Nat.reduceAdd, Bool.not_true, Bool.not_false, List.getElem?_cons_zero, List.getElem?_cons_succ, decide_true, decide_false, Bool.false_eq_true, fn54u2, a0, a77, a78, hv, wi]
        refine ⟨post.length, by omega, pre ++ [s], post, S4, hpost, rfl, by simp, ?_, u3.trans u4, ?_, ?_⟩
        · rw [hag, ← k2]
          exact q4
        · exact row3.fr u4.fr d2
        · intro k hk hm
          rcases u4.sub k hm with g | g
          · exact d2 k hk g
          · have := row3.lt k hk; omega
      · have c4' : ((s.2.2 + 1).tmod 4 == 0) = false := by simpa using c4
        rw [if_neg c4] at hag
        simp only [go_sem, true_and, and_true, ↓reduceIte, Nat.reduceEqDiff, Nat.reduceAdd, Bool.not_true, Bool.not_false, List.getElem?_cons_zero, List.getElem?_cons_succ, decide_true, decide_false, Bool.false_eq_true, j2, d4, ne_eq, not_false_eq_true, c4', fn54u2, a0, a77, a78, hv, wi]
        refine ⟨post.length, by omega, pre ++ [s], post, S2, hpost, rfl, by simp, ?_, u3, row3, d2⟩
        rw [hag]
        exact q3

theorem tick_spec (hG : Nibs G) {t : Nat} {T : Tn} {S : List Nat} (pT : TunR h t T S) (hm : T.me > 0 ∧ T.me ≤ 1099511627776) (hb : T.out.length ≤ 90000) (hw : T.way.length ≤ 100000) (hs : ∀ s ∈ T.way, 0 ≤ s.2.2 ∧ s.2.2 ≤ 1099511627776) (he : 0 ≤ T.epoch ∧ T.epoch ≤ 1099511627775) (ht : 0 ≤ T.ticks ∧ T.ticks ≤ 1099511627776) (hsi : 0 ≤ T.silence ∧ T.silence ≤ 1099511627776)
    (R : V → Heap → Prop) (hR : ∀ h' S', TunR h' t T.tick S' → Up h h' S S' → R (.tup []) h') : Calls0 Tryd.prog G 54 [.ptr t 0 0] h R := by
  obtain ⟨wv, qv, ev, ov, So, Sm, p, hS⟩ := pT
  refine fn_walk mixed fn54uis [115] rfl ?_
  have d4 : (4 : Int) ≠ 0 := by decide
  have d8 : (8 : Int) ≠ 0 := by decide
  have w1 : IntKind.i64.wrap (T.ticks + 1) = T.ticks + 1 := wrap64 (by omega) (by omega)
  have w2 : IntKind.i64.wrap (T.silence + 1) = T.silence + 1 := wrap64 (by omega) (by omega)
  have l10 : loadV h false 1 (.ptr t 0 10) = some (.int .i64 T.ticks) := ld0 p.obj rfl
  simp only [go_sem, true_and, and_true, ↓reduceIte, Nat.reduceEqDiff, Nat.reduceAdd, Bool.not_true, Bool.not_false, List.getElem?_cons_zero, List.getElem?_cons_succ, decide_true, decide_false, Bool.false_eq_true, fn54]
  refine made_spec p _ ?_
  simp only [go_sem, true_and, and_true, ↓reduceIte, Nat.reduceEqDiff, Nat.reduceAdd, Bool.not_true, Bool.not_false, List.getElem?_cons_zero, List.getElem?_cons_succ, decide_true, decide_false, Bool.false_eq_true, hm.1, fn54u9, l10, w1]
  refine go_store0 (v := .int .i64 (T.ticks + 1)) (sub := 10) p.obj rfl rfl rfl (by simp [tunC]) ?_
  intro h1 f1 n1 e1
  simp only [tunC, List.set_cons_zero, List.set_cons_succ] at e1
  have p1 := p.put (T' := T.tick1) f1 e1 p.way p.queue rfl rfl rfl
  have u1 : Up h h1 S S := ⟨f1.mono (by rw [hS]; simp), fun _ hk => .inl hk⟩
  have m0 : loadV h1 false 1 (.ptr t 0 0) = some (.bool T.up) := ld0 p1.obj rfl
  have m1 : loadV h1 false 1 (.ptr t 0 1) = some (.int .i64 T.silence) := ld0 p1.obj rfl
  have m8 : loadV h1 false 1 (.ptr t 0 8) = some (.int .i64 T.you) := ld0 p1.obj rfl
  have m10 : loadV h1 false 1 (.ptr t 0 10) = some (.int .i64 (T.ticks + 1)) := ld0 p1.obj rfl
  unfold Tn.tick at hR
  cases hu : T.up with
  | false =>
    rw [if_pos hu] at hR
    by_cases c1 : T.you > 0
    · by_cases c2 : (T.ticks + 1).tmod 4 = 0
      · have c2' : ((T.ticks + 1).tmod 4 == 0) = true := by simpa using c2
        rw [if_pos ⟨c1, c2⟩] at hR
        simp only [go_sem, true_and, and_true, ↓reduceIte, Nat.reduceEqDiff, Nat.reduceAdd, Bool.not_true, Bool.not_false, List.getElem?_cons_zero, List.getElem?_cons_succ, decide_true, decide_false, Bool.false_eq_true, m0, hu, m8, m10, c1, d4, ne_eq, not_false_eq_true, c2', fn54u1]
        refine go_build (cs := [.int .i64 1, .int .i64 0, .int .i64 T.you, .int .i64 0, .int .i64 0, .int .i64 0, .nil]) rfl ?_
        simp only [go_sem, true_and, and_true, ↓reduceIte, Nat.reduceEqDiff, Nat.reduceAdd, Bool.not_true, Bool.not_false, List.getElem?_cons_zero, List.getElem?_cons_succ, decide_true, decide_false, Bool.false_eq_true]
        refine say_spec hG (T := T.tick1) ⟨_, _, _, _, _, _, p1, hS⟩ (by show T.out.length ≤ _; omega) (helloM T.you) .nil Rs.nil rfl _ ?_
        intro h2 S2 q2 u2
        simp only [go_sem, true_and, and_true, ↓reduceIte, Nat.reduceEqDiff, Nat.reduceAdd, Bool.not_true, Bool.not_false, List.getElem?_cons_zero, List.getElem?_cons_succ, decide_true, decide_false, Bool.false_eq_true]
        exact hR h2 S2 q2 (u1.trans u2)
      · have c2' : ((T.ticks + 1).tmod 4 == 0) = false := by simpa using c2
        rw [if_neg (fun hh => c2 hh.2)] at hR
        simp only [go_sem, true_and, and_true, ↓reduceIte, Nat.reduceEqDiff, Nat.reduceAdd, Bool.not_true, Bool.not_false, List.getElem?_cons_zero, List.getElem?_cons_succ, decide_true, decide_false, Bool.false_eq_true, m0, hu, m8, m10, c1, d4, ne_eq, not_false_eq_true, c2', fn54u1]
        exact hR h1 S ⟨_, _, _, _, _, _, p1, hS⟩ u1
    · rw [if_neg (fun hh => c1 hh.1)] at hR
      simp only [go_sem, true_and, and_true, ↓reduceIte, Nat.reduceEqDiff, Nat.reduceAdd, Bool.not_true, Bool.not_false, List.getElem?_cons_zero, List.getElem?_cons_succ, decide_true, decide_false, Bool.false_eq_true, m0, hu, m8, m10, c1, fn54u1]
      exact hR h1 S ⟨_, _, _, _, _, _, p1, hS⟩ u1
  | true =>
    rw [if_neg (by rw [hu]; simp)] at hR
    simp only [go_sem, true_and, and_true, ↓reduceIte, Nat.reduceEqDiff, Nat.reduceAdd, Bool.not_true, Bool.not_false, List.getElem?_cons_zero, List.getElem?_cons_succ, decide_true, decide_false, Bool.false_eq_true, m0, hu, fn54u8, m1, w2]
    refine go_store0 (v := .int .i64 (T.silence + 1)) (sub := 1) p1.obj rfl rfl rfl (by simp [tunC]) ?_
    intro h2 f2 n2 e2
    simp only [tunC, List.set_cons_zero, List.set_cons_succ] at e2
    have p2 := p1.put (T' := T.tick1.tick2) f2 e2 p1.way p1.queue rfl rfl rfl
    have u2 : Up h h2 S S := u1.trans ⟨f2.mono (by rw [hS]; simp), fun _ hk => .inl hk⟩
    have k1 : loadV h2 false 1 (.ptr t 0 1) = some (.int .i64 (T.silence + 1)) := ld0 p2.obj rfl
    have k8 : loadV h2 false 1 (.ptr t 0 8) = some (.int .i64 T.you) := ld0 p2.obj rfl
    have k10 : loadV h2 false 1 (.ptr t 0 10) = some (.int .i64 (T.ticks + 1)) := ld0 p2.obj rfl
    by_cases c1 : T.silence + 1 ≥ 64
    · rw [if_pos (show T.tick1.tick2.silence ≥ 64 from c1)] at hR
      simp only [go_sem, true_and, and_true, ↓reduceIte, Nat.reduceEqDiff, Nat.reduceAdd, Bool.not_true, Bool.not_false, List.getElem?_cons_zero, List.getElem?_cons_succ, decide_true, decide_false, Bool.false_eq_true, k1, c1]
      refine stop_spec (T := T.tick1.tick2) ⟨_, _, _, _, _, _, p2, hS⟩ ⟨by show 0 ≤ T.me; omega, hm.2⟩ ⟨by show 0 ≤ T.epoch; omega, by show T.epoch ≤ _; omega⟩ _ ?_
      intro h3 S3 q3 u3
      simp only [go_sem, true_and, and_true, ↓reduceIte, Nat.reduceEqDiff, Nat.reduceAdd, Bool.not_true, Bool.not_false, List.getElem?_cons_zero, List.getElem?_cons_succ, decide_true, decide_false, Bool.false_eq_true]
      exact hR h3 S3 q3 (u2.trans u3)
    · rw [if_neg (show ¬ T.tick1.tick2.silence ≥ 64 from c1)] at hR
      by_cases c2 : (T.ticks + 1).tmod 8 = 0
      · have c2' : ((T.ticks + 1).tmod 8 == 0) = true := by simpa using c2
        have e3 : T.tick1.tick2.tick3 = T.tick1.tick2.say (helloM T.you) := by unfold Tn.tick3; rw [if_pos (show T.tick1.tick2.ticks.tmod 8 = 0 from c2)]; rfl
        rw [e3] at hR
        simp only [go_sem, true_and, and_true, ↓reduceIte, Nat.reduceEqDiff, Nat.reduceAdd, Bool.not_true, Bool.not_false, List.getElem?_cons_zero, List.getElem?_cons_succ, decide_true, decide_false, Bool.false_eq_true, k1, c1, fn54u7, k8, k10, d8, ne_eq, not_false_eq_true, c2']
        refine go_build (cs := [.int .i64 1, .int .i64 0, .int .i64 T.you, .int .i64 0, .int .i64 0, .int .i64 0, .nil]) rfl ?_
        simp only [go_sem, true_and, and_true, ↓reduceIte, Nat.reduceEqDiff, Nat.reduceAdd, Bool.not_true, Bool.not_false, List.getElem?_cons_zero, List.getElem?_cons_succ, decide_true, decide_false, Bool.false_eq_true]
        refine say_spec hG (T := T.tick1.tick2) ⟨_, _, _, _, _, _, p2, hS⟩ (by show T.out.length ≤ _; omega) (helloM T.you) .nil Rs.nil rfl _ ?_
        intro h3 S3 q3 u3
        simp only [go_sem, true_and, and_true, ↓reduceIte, Nat.reduceEqDiff, Nat.reduceAdd, Bool.not_true, Bool.not_false, List.getElem?_cons_zero, List.getElem?_cons_succ, decide_true, decide_false, Bool.false_eq_true]
        refine age_walk hG q3 ?_ hw hs _ ?_ R ?_
        · show (T.out ++ [_]).length ≤ _
          simp; omega
        · simp only [go_sem, true_and, and_true, ↓reduceIte, Nat.reduceEqDiff, Nat.reduceAdd, Bool.not_true, Bool.not_false, List.getElem?_cons_zero, List.getElem?_cons_succ, decide_true, decide_false, Bool.false_eq_true]
        · intro h4 S4 q4 u4
          exact hR h4 S4 q4 ((u2.trans u3).trans u4)
      · have c2' : ((T.ticks + 1).tmod 8 == 0) = false := by simpa using c2
        have e3 : T.tick1.tick2.tick3 = T.tick1.tick2 := by unfold Tn.tick3; rw [if_neg (show ¬ T.tick1.tick2.ticks.tmod 8 = 0 from c2)]
        rw [e3] at hR
        simp only [go_sem, true_and, and_true, ↓reduceIte, Nat.reduceEqDiff, Nat.reduceAdd, Bool.not_true, Bool.not_false, List.getElem?_cons_zero, List.getElem?_cons_succ, decide_true, decide_false, Bool.false_eq_true, k1, c1, fn54u7, k8, k10, d8, ne_eq, not_false_eq_true, c2']
        refine age_walk hG (T := T.tick1.tick2) ⟨_, _, _, _, _, _, p2, hS⟩ (by show T.out.length ≤ _; omega) hw hs _ ?_ R ?_
        · simp only [go_sem, true_and, and_true, ↓reduceIte, Nat.reduceEqDiff, Nat.reduceAdd, Bool.not_true, Bool.not_false, List.getElem?_cons_zero, List.getElem?_cons_succ, decide_true, decide_false, Bool.false_eq_true]
        · intro h4 S4 q4 u4
          exact hR h4 S4 q4 (u2.trans u4)

end Go.Am

/- The pair's helpers: rows of bytes held against one another; Delete. -/
namespace Go.Am
open Go.Proofs
variable {G : Nat → V} {h h' h'' : Heap} {fz : List Nat} {a : Tm} {K : Tm → Heap → Prop}

theorem bytesOf_b8 : ∀ bs : List UInt8, bytesOf (bs.map b8) = some bs
  | [] => rfl
  | x :: xs => by
    show (bytesOf (xs.map b8)).map (UInt8.ofNat (x.toNat : Int).toNat :: ·) = _
    rw [bytesOf_b8 xs]
    simp

/-- Bytes as a string. -/
def strV (bs : List UInt8) : V := .str ⟨bs.toArray⟩
theorem go_b2s {i : Ins} {x : Opd} {v : V} {bs : List UInt8} (hr : readL h v = some (bs.map b8)) (hx : x.ev G a = v) (hk : putD G fz i K a (strV bs) h) : goO G fz i K a (stepI G a h (.b2s x)) := by
  have : stepI G a h (.b2s x) = some (strV bs, h) := by
    simp only [stepI, hx, hr, Option.bind_some, bytesOf_b8, Option.map_some]
    rfl
  rw [this]
  exact hk
theorem toList_loop (s : ByteArray) : ∀ (n i : Nat) (r : List UInt8), s.size - i = n → i ≤ s.size → ByteArray.toList.loop s i r = r.reverse ++ s.data.toList.drop i
  | 0, i, r, h, hi => by
    unfold ByteArray.toList.loop
    have e : i = s.size := by omega
    rw [if_neg (by omega), e]
    have : s.data.toList.drop s.size = [] := List.drop_eq_nil_of_le (by rw [Array.length_toList]; exact Nat.le_refl _)
    rw [this, List.append_nil]
  | n + 1, i, r, h, hi => by
    unfold ByteArray.toList.loop
    have hlt : i < s.size := by omega
    have hlt' : i < s.data.toList.length := by rw [Array.length_toList]; exact hlt
    rw [if_pos hlt, toList_loop s n (i + 1) _ (by omega) (by omega)]
    have hg : s.get! i = s.data.toList[i] := by
      show s.data[i]! = _
      rw [getElem!_pos s.data i hlt]
      rfl
    rw [hg, List.drop_eq_getElem_cons hlt']
    simp
theorem toList_mk (bs : List UInt8) : (ByteArray.mk bs.toArray).toList = bs := by
  unfold ByteArray.toList
  rw [toList_loop _ _ 0 [] rfl (by omega)]
  simp

theorem equal_spec (x y : V) (bs cs : List UInt8) (hx : readL h x = some (bs.map b8)) (hy : readL h y = some (cs.map b8)) (R : V → Heap → Prop) (hR : R (.bool (decide (bs = cs))) h) : Calls0 Tryd.prog G 61 [x, y] h R := by
  refine fn_walk mixed fn61uis [] rfl ?_
  simp only [go_sem, true_and, and_true, ↓reduceIte, Nat.reduceEqDiff, Nat.reduceAdd, Bool.not_true, Bool.not_false, List.getElem?_cons_zero, List.getElem?_cons_succ, decide_true, decide_false, Bool.false_eq_true, fn61]
  refine go_b2s hx rfl ?_
  simp only [go_sem, true_and, and_true, ↓reduceIte, Nat.reduceEqDiff, Nat.reduceAdd, Bool.not_true, Bool.not_false, List.getElem?_cons_zero, List.getElem?_cons_succ, decide_true, decide_false, Bool.false_eq_true]
  refine go_b2s hy rfl ?_
  simp only [go_sem, true_and, and_true, ↓reduceIte, Nat.reduceEqDiff, Nat.reduceAdd, Bool.not_true, Bool.not_false, List.getElem?_cons_zero, List.getElem?_cons_succ, decide_true, decide_false, Bool.false_eq_true, strV, toList_mk]
  have : (bs == cs) = decide (bs = cs) := by rw [Bool.eq_iff_iff]; simp
  rw [this]
  exact hR

/-- Two lists of bytes are the same. -/
theorem eqf_spec (x y : V) (l m : List (List UInt8)) (hx : Rs h 1 x (l.map lb)) (hy : Rs h 1 y (m.map lb)) (hl : l.length ≤ 1000000) (hm : m.length ≤ 1000000) (R : V → Heap → Prop) (hR : R (.bool (decide (l = m))) h) : Calls0 Tryd.prog G 60 [x, y, .fn 61 []] h R := by
  refine fn_walk mixed fn60uis [] rfl ?_
  have nx := hx.len
  have ny := hy.len
  rw [List.length_map] at nx ny
  by_cases c : l.length = m.length
  · have c' : ((l.length : Int) != (m.length : Int)) = false := by simp only [bne_eq_false_iff_eq]; omega
    simp only [go_sem, true_and, and_true, ↓reduceIte, Nat.reduceEqDiff, Nat.reduceAdd, Bool.not_true, Bool.not_false, List.getElem?_cons_zero, List.getElem?_cons_succ, decide_true, decide_false, Bool.false_eq_true, fn60, nx, ny, c', fn60u5]
    refine w_loop (fun a h' n => h = h' ∧ n ≤ l.length ∧ a 0 = x ∧ a 1 = y ∧ a 2 = .fn 61 [] ∧ a 15 = x ∧ a 16 = .int .i64 l.length ∧ a 17 = .int .i64 ((l.length - n : Nat) : Int) ∧ l.take (l.length - n) = m.take (l.length - n)) l.length ?_ ?_
    · refine ⟨rfl, Nat.le_refl _, rfl, rfl, rfl, rfl, rfl, ?_, by simp⟩
      simp only [go_sem, true_and, and_true, ↓reduceIte, Nat.reduceEqDiff, Nat.reduceAdd, Bool.not_true, Bool.not_false, List.getElem?_cons_zero, List.getElem?_cons_succ, decide_true, decide_false, Bool.false_eq_true, Nat.sub_self]
      rfl
    · rintro a _ n ⟨rfl, g, a0, a1, a2, a15, a16, a17, ht⟩
      cases n with
      | zero =>
        have ci : ¬ ((l.length - 0 : Nat) : Int) < (l.length : Int) := by omega
        simp only [go_sem, true_and, and_true, ↓reduceIte, Nat.reduceEqDiff, Nat.reduceAdd, Bool.not_true, Bool.not_false, List.getElem?_cons_zero, List.getElem?_cons_succ, decide_true, decide_false, Bool.false_eq_true, fn60u3, fn60u4, a16, a17, ci]
        have : l = m := by
          rw [Nat.sub_zero, List.take_length, c, List.take_length] at ht
          exact ht
        simpa [this] using hR
      | succ k =>
        have ci : ((l.length - (k + 1) : Nat) : Int) < (l.length : Int) := by omega
        have hlt : l.length - (k + 1) < l.length := by omega
        have hlt2 : l.length - (k + 1) < m.length := by omega
        have wi : IntKind.i64.wrap (((l.length - (k + 1) : Nat) : Int) + 1) = ((l.length - k : Nat) : Int) := by rw [wrap64 (by omega) (by omega)]; omega
        simp only [go_sem, true_and, and_true, ↓reduceIte, Nat.reduceEqDiff, Nat.reduceAdd, Bool.not_true, Bool.not_false, List.getElem?_cons_zero, List.getElem?_cons_succ, decide_true, decide_false, Bool.false_eq_true, fn60u3, fn60u2, a0, a1, a2, a15, a16, a17, ci]
        refine go_iaddr (k := .i64) (n := l.length - (k + 1)) (e := lb l[l.length - (k + 1)]) hx ?_ ?_ ?_ ?_
        · simp only [go_sem, true_and, and_true, ↓reduceIte, Nat.reduceEqDiff, Nat.reduceAdd, Bool.not_true, Bool.not_false, List.getElem?_cons_zero, List.getElem?_cons_succ, decide_true, decide_false, Bool.false_eq_true, a15]
        · simp only [go_sem, true_and, and_true, ↓reduceIte, Nat.reduceEqDiff, Nat.reduceAdd, Bool.not_true, Bool.not_false, List.getElem?_cons_zero, List.getElem?_cons_succ, decide_true, decide_false, Bool.false_eq_true, a17]
        · simp [hlt]
        intro p1 q1
        have m1 := q1.load1 (e := lb l[l.length - (k + 1)]) rfl
        simp only [go_sem, true_and, and_true, ↓reduceIte, Nat.reduceEqDiff, Nat.reduceAdd, Bool.not_true, Bool.not_false, List.getElem?_cons_zero, List.getElem?_cons_succ, decide_true, decide_false, Bool.false_eq_true, m1, a1, a17]
        refine go_iaddr (k := .i64) (n := l.length - (k + 1)) (e := lb m[l.length - (k + 1)]) hy ?_ ?_ ?_ ?_
        · simp only [go_sem, true_and, and_true, ↓reduceIte, Nat.reduceEqDiff, Nat.reduceAdd, Bool.not_true, Bool.not_false, List.getElem?_cons_zero, List.getElem?_cons_succ, decide_true, decide_false, Bool.false_eq_true, a1]
        · simp only [go_sem, true_and, and_true, ↓reduceIte, Nat.reduceEqDiff, Nat.reduceAdd, Bool.not_true, Bool.not_false, List.getElem?_cons_zero, List.getElem?_cons_succ, decide_true, decide_false, Bool.false_eq_true]
        · simp [hlt2]
        intro p2 q2
        have m2 := q2.load1 (e := lb m[l.length - (k + 1)]) rfl
        simp only [go_sem, true_and, and_true, ↓reduceIte, Nat.reduceEqDiff, Nat.reduceAdd, Bool.not_true, Bool.not_false, List.getElem?_cons_zero, List.getElem?_cons_succ, decide_true, decide_false, Bool.false_eq_true, m2, a2, List.append_nil]
        refine equal_spec _ _ _ _ (lb_read _) (lb_read _) _ ?_
        have tl : l.take (l.length - k) = l.take (l.length - (k + 1)) ++ [l[l.length - (k + 1)]] := by
          rw [show l.length - k = l.length - (k + 1) + 1 from by omega, List.take_add_one, List.getElem?_eq_getElem hlt]; rfl
        have tm : m.take (l.length - k) = m.take (l.length - (k + 1)) ++ [m[l.length - (k + 1)]] := by
          rw [show l.length - k = l.length - (k + 1) + 1 from by omega, List.take_add_one, List.getElem?_eq_getElem hlt2]; rfl
        by_cases ce : l[l.length - (k + 1)] = m[l.length - (k + 1)]
        · simp only [go_sem, true_and, and_true, ↓reduceIte, Nat.reduceEqDiff, Nat.reduceAdd, Bool.not_true, Bool.not_false, List.getElem?_cons_zero, List.getElem?_cons_succ, decide_true, decide_false, Bool.false_eq_true, ce, fn60u1, a0, a1, a2, a15, a16, a17, wi]
          refine ⟨k, by omega, by omega, rfl, ?_⟩
          rw [tl, tm, ht, ce]
        · simp only [go_sem, true_and, and_true, ↓reduceIte, Nat.reduceEqDiff, Nat.reduceAdd, Bool.not_true, Bool.not_false, List.getElem?_cons_zero, List.getElem?_cons_succ, decide_true, decide_false, Bool.false_eq_true, ce]
          have : ¬ l = m := fun e => ce (by simp [e])
          simpa [this] using hR
  · have c' : ((l.length : Int) != (m.length : Int)) = true := by simp only [bne_iff_ne, ne_eq]; omega
    have : ¬ l = m := fun e => c (by rw [e])
    simp only [go_sem, true_and, and_true, ↓reduceIte, Nat.reduceEqDiff, Nat.reduceAdd, Bool.not_true, Bool.not_false, List.getElem?_cons_zero, List.getElem?_cons_succ, decide_true, decide_false, Bool.false_eq_true, fn60, nx, ny, c']
    simpa [this] using hR

theorem rows_spec (x y : V) (l m : List (List UInt8)) (hx : Rs h 1 x (l.map lb)) (hy : Rs h 1 y (m.map lb)) (hl : l.length ≤ 1000000) (hm : m.length ≤ 1000000) (R : V → Heap → Prop) (hR : R (.bool (decide (l = m))) h) : Calls0 Tryd.prog G 21 [x, y] h R := by
  refine fn_walk mixed fn21uis [] rfl ?_
  simp only [go_sem, true_and, and_true, ↓reduceIte, Nat.reduceEqDiff, Nat.reduceAdd, Bool.not_true, Bool.not_false, List.getElem?_cons_zero, List.getElem?_cons_succ, decide_true, decide_false, Bool.false_eq_true, fn21]
  refine eqf_spec x y l m hx hy hl hm _ ?_
  simp only [go_sem, true_and, and_true, ↓reduceIte, Nat.reduceEqDiff, Nat.reduceAdd, Bool.not_true, Bool.not_false, List.getElem?_cons_zero, List.getElem?_cons_succ, decide_true, decide_false, Bool.false_eq_true]
  exact hR

end Go.Am

/- The pair: bags; slices.Delete. -/
namespace Go.Am
open Go.Proofs
variable {G : Nat → V} {h h' h'' : Heap} {fz : List Nat} {a : Tm} {K : Tm → Heap → Prop}

/-- A row of one's own, perhaps with room behind it; or none yet. -/
def Buf (h : Heap) (S : List Nat) (xs : List V) (v : V) : Prop :=
  (S = [] ∧ xs = [] ∧ v = .nil) ∨ ∃ o ys, S = [o] ∧ v = .slc o 0 xs.length ys.length ∧ h.obj o = some (.arr 27 1 ys) ∧ ys.take xs.length = xs ∧ xs.length ≤ ys.length

theorem Buf.nil : Buf h [] [] .nil := .inl ⟨rfl, rfl, rfl⟩
theorem Row.buf {S : List Nat} {xs : List V} {v : V} (w : Row h S 27 1 xs v) : Buf h S xs v := by
  rcases w with ⟨h1, h2, h3⟩ | ⟨o, h1, h2, h3⟩
  · exact .inl ⟨h1, h2, h3⟩
  · exact .inr ⟨o, xs, h1, h2, h3, by rw [List.take_length], Nat.le_refl _⟩
theorem Buf.lt {S : List Nat} {xs : List V} {v : V} (w : Buf h S xs v) : ∀ k ∈ S, k < h.next := by
  rcases w with ⟨rfl, _, _⟩ | ⟨o, ys, rfl, _, e, _⟩
  · simp
  · simpa using Heap.lt_next e
theorem Buf.fr {S T : List Nat} {xs : List V} {v : V} (w : Buf h S xs v) (f : Fr T h h') (hS : ∀ k ∈ S, k ∉ T) : Buf h' S xs v := by
  rcases w with ⟨h1, h2, h3⟩ | ⟨o, ys, rfl, h2, e, h3⟩
  · exact .inl ⟨h1, h2, h3⟩
  · exact .inr ⟨o, ys, rfl, h2, f.at e (hS o (by simp)), h3⟩
theorem Buf.one {S : List Nat} {xs : List V} {v : V} (w : Buf h S xs v) : v.one = true := by
  rcases w with ⟨_, _, rfl⟩ | ⟨o, ys, _, rfl, _⟩ <;> rfl
theorem Buf.len {S : List Nat} {xs : List V} {v : V} (w : Buf h S xs v) : lenV v = some xs.length := by
  rcases w with ⟨_, rfl, rfl⟩ | ⟨o, ys, _, rfl, _⟩ <;> rfl
theorem Buf.rs {S : List Nat} {xs : List V} {v : V} (w : Buf h S xs v) (hc : ∀ x ∈ xs, x.cells.length = 1) : Rs h 1 v xs := by
  rcases w with ⟨_, rfl, rfl⟩ | ⟨o, ys, _, rfl, e, ht, hl⟩
  · exact Rs.nil
  · refine ⟨?_, rfl, hc, fun o' off len room ty s zs hv ho => ?_, fun o' off len room hv => by injection hv with _ _ h3 h4; omega⟩
    · simp only [readL, e]
      rw [if_pos (by omega), List.drop_zero, ht]
    · injection hv with h1
      subst h1
      rw [e] at ho
      injection ho with ho
      injection ho with _ h2 _
      exact h2.symm
theorem Buf.nodup {S : List Nat} {xs : List V} {v : V} (w : Buf h S xs v) : S.Nodup := by
  rcases w with ⟨rfl, _, _⟩ | ⟨o, ys, rfl, _⟩ <;> simp

/-- append(row, y). -/
theorem go_appendB {i : Ins} {x y : Opd} {S : List Nat} {xs : List V} {v b : V} (w : Buf h S xs v) (hx : x.ev G a = v) (hy : readL h (y.ev G a) = some [b]) (hb : b.cells.length = 1) (hl : xs.length ≤ 1000000)
    (hk : ∀ S' v' h', Buf h' S' (xs ++ [b]) v' → Fr S h h' → (∀ k ∈ S', k ∈ S ∨ h.next ≤ k) → putD G fz i K a v' h') : goO G fz i K a (stepI G a h (.append 27 1 24 x y)) := by
  have hz : szOk 1 [b] = true := by simp [szOk, hb]
  rcases w with ⟨rfl, rfl, rfl⟩ | ⟨o, ys, rfl, rfl, e, ht, hle⟩
  · refine go_appendN hx hy (by simp) (by simp) hz (fun v' h' q => ?_)
    obtain ⟨f, S', r, l⟩ := q
    exact hk S' v' h' r.buf f (fun k hk => .inr (l k hk))
  · show goO G fz i K a (appendV h 27 1 24 (x.ev G a) (y.ev G a))
    by_cases c : xs.length < ys.length
    · have : appendV h 27 1 24 (x.ev G a) (y.ev G a) = some (.slc o 0 (xs.length + 1) ys.length, h.set o (.arr 27 1 (ys.take xs.length ++ [b] ++ ys.drop (xs.length + 1)))) := by
        simp only [appendV, hx, hy, e, List.length_singleton]
        rw [if_pos ⟨trivial, trivial, by omega, by omega, hz, hle⟩, if_pos ⟨by omega, by omega⟩]
      rw [this]
      have hyl : (ys.take xs.length ++ [b] ++ ys.drop (xs.length + 1)).length = ys.length := by simp; omega
      refine hk [o] _ _ (.inr ⟨o, _, rfl, by rw [hyl]; simp, set_new e, ?_, by rw [hyl]; simp; omega⟩) (Fr.set h o _) (fun k hk => .inl hk)
      rw [ht, List.take_append_of_le_length (by simp), List.length_append]
      rw [List.take_of_length_le (by simp)]
    · have he : ys.length = xs.length := by omega
      have hxy : ys = xs := by rw [← ht, ← he, List.take_length]
      subst hxy
      have : appendV h 27 1 24 (x.ev G a) (y.ev G a) = some (.slc h.next 0 (ys.length + 1) (ys.length + 1), (h.kill o).alloc (.arr 27 1 (ys ++ [b]))) := by
        simp only [appendV, hx, hy, e, List.length_singleton]
        rw [if_pos ⟨trivial, trivial, by omega, by omega, hz, hle⟩, if_neg (by omega), if_pos trivial]
      rw [this]
      exact hk [h.next] _ _ (.inr ⟨h.next, _, rfl, by simp, alloc_new (h := h.kill o), by rw [List.take_length], Nat.le_refl _⟩) ((Fr.kill h o).trans (Fr.alloc _ _) (by simp)) (fun k hk => .inr (by simp at hk; omega))

/-- x[room:room] of a slice of an object: nothing. -/
theorem go_sliceZ {i : Ins} {x : Opd} {lo hi : Option Opd} {sz o off len room n ty : Nat} {xs : List V} (e : h.obj o = some (.arr ty sz xs)) (hx : x.ev G a = .slc o off len room) (hl : ((lo.map (·.ev G a)).map idx).getD (some 0) = some room) (hh : ((hi.map (·.ev G a)).map idx).getD (some len) = some n)
    (hn : n = room) (hk : putD G fz i K a (.lst []) h) : goO G fz i K a (stepI G a h (.slice sz x lo hi none)) := by
  subst hn
  have : stepI G a h (.slice sz x lo hi none) = some (.lst [], h) := by
    simp only [stepI, hx, Option.map_none, sliceV, hl, hh, Option.getD_none, Option.isSome_none, e]
    rw [if_pos ⟨Nat.le_refl _, Nat.le_refl _, Nat.le_refl _, trivial⟩, if_pos trivial]
    simp
  rw [this]
  exact hk

set_option maxHeartbeats 1000000 in
/-- slices.Delete(s, i, i+1) of a fresh row. -/
theorem del_spec {S : List Nat} {v : V} {l : List (List UInt8)} (hv : Row h S 27 1 (l.map lb) v) (i : Nat) (hi : i < l.length) (hl : l.length ≤ 1000000) (R : V → Heap → Prop)
    (hR : ∀ v' h' , Buf h' S ((l.eraseIdx i).map lb) v' → Fr S h h' → h'.next = h.next → R v' h') : Calls0 Tryd.prog G 55 [v, .int .i64 i, .int .i64 ((i + 1 : Nat) : Int)] h R := by
  refine fn_walk mixed fn55uis [] rfl ?_
  rcases hv with ⟨_, e, _⟩ | ⟨o, rfl, rfl, e⟩
  · simp at e; subst e; simp at hi
  have hn : (l.map lb).length = l.length := by simp
  rw [hn]
  generalize hxs : l.map lb = xs at *
  have c : ((i : Int) == ((i + 1 : Nat) : Int)) = false := by simp only [beq_eq_false_iff_ne, ne_eq]; omega
  have s3 : ∀ (a : Tm), a 8 = .slc o 0 l.length l.length → a 9 = .int .i64 i → a 10 = .int .i64 ((i + 1 : Nat) : Int) → a 12 = .int .i64 l.length → stepI G a h (.slice 1 (.t 8) (some (.t 9)) (some (.t 10)) (some (.t 12))) = some (.slc o (0 + i) (i + 1 - i) (l.length - i), h) := by
    intro a h1 h2 h3 h4
    simp only [stepI, e_t, h1, h2, h3, h4, Option.map_some, sliceV, idx_nat, Option.getD_some, e]
    rw [if_pos ⟨by omega, by omega, Nat.le_refl _, trivial⟩, if_neg (by omega)]
    rfl
  simp only [go_sem, true_and, and_true, ↓reduceIte, Nat.reduceEqDiff, Nat.reduceAdd, Bool.not_true, Bool.not_false, List.getElem?_cons_zero, List.getElem?_cons_succ, decide_true, decide_false, Bool.false_eq_true, fn55]
  rw [s3 _ rfl rfl rfl rfl]
  simp only [go_sem, true_and, and_true, ↓reduceIte, Nat.reduceEqDiff, Nat.reduceAdd, Bool.not_true, Bool.not_false, List.getElem?_cons_zero, List.getElem?_cons_succ, decide_true, decide_false, Bool.false_eq_true, c, fn55u1]
  refine go_sliceO (off := 0) (len := l.length) (room := l.length) (l := 0) (n := i) e rfl rfl ?_ (by omega) (by omega) (by omega) ?_
  · simp only [Option.map_some, go_sem, ↓reduceIte, Nat.reduceEqDiff, idx_nat, Option.getD_some]
  simp only [go_sem, true_and, and_true, ↓reduceIte, Nat.reduceEqDiff, Nat.reduceAdd, Bool.not_true, Bool.not_false, List.getElem?_cons_zero, List.getElem?_cons_succ, decide_true, decide_false, Bool.false_eq_true]
  have yread : ∀ (y : V), (y = .slc o (0 + (i + 1)) (l.length - (i + 1)) (l.length - (i + 1)) ∨ (y = .lst [] ∧ l.length = i + 1)) → readL h y = some (xs.drop (i + 1)) := by
    intro y hy
    rcases hy with rfl | ⟨rfl, hy⟩
    · simp only [readL, e]
      rw [if_pos (by omega)]
      congr 1
      rw [Nat.zero_add, List.take_of_length_le (by simp; omega)]
    · simp only [readL]
      rw [List.drop_eq_nil_of_le (by omega)]
  have rest : ∀ (a : Tm) (y : V), readL h y = some (xs.drop (i + 1)) → a 0 = .slc o 0 l.length l.length → a 22 = .slc o 0 i l.length → a 25 = y → a 7 = .int .i64 l.length →
      goO G [] ⟨some 26, none, .append 27 1 24 (.t 22) (.t 25), []⟩ (wpI (Calls0 Tryd.prog G) G [] ⟨some 0, none, .mov (.t 26), []⟩ (wpT (Calls0 Tryd.prog G) G [] .done (thenQ (wpC (Calls0 Tryd.prog G) G [] (.seq (.region [⟨some 27, none, .mov (.t 0), []⟩,
    ⟨some 28, none, .mov (.t 0), []⟩,
    ⟨some 29, none, .len (.t 28), []⟩,
    ⟨some 30, none, .mov (.t 7), []⟩,
    ⟨some 31, none, .slice 1 (.t 27) (some (.t 29)) (some (.t 30)) none, []⟩,
    ⟨none, none, .clear .nil (.t 31), []⟩])
  (.seq (.region [⟨some 32, none, .mov (.t 0), []⟩,
    ⟨some 6, none, .mov (.t 32), []⟩])
  .ret)) (postF R [.tmp 6])) (postF R [.tmp 6]) .normal))) a (stepI G a h (.append 27 1 24 (.t 22) (.t 25))) := by
    intro a y hy a0 a22 a25 a7
    have hdl : (xs.drop (i + 1)).length = l.length - (i + 1) := by simp; omega
    have hz : szOk 1 (xs.drop (i + 1)) = true := by rw [← hxs, ← List.map_drop]; exact szOk_lb _
    have ap : stepI G a h (.append 27 1 24 (.t 22) (.t 25)) = some (.slc o 0 (l.length - 1) l.length, h.set o (.arr 27 1 (xs.take i ++ xs.drop (i + 1) ++ xs.drop (i + (l.length - (i + 1)))))) := by
      simp only [stepI, e_t, a22, a25, appendV, hy, e, hdl]
      rw [if_pos ⟨trivial, trivial, by omega, by omega, hz, by omega⟩, if_pos ⟨by omega, by omega⟩]
      congr 2
      congr 1
      omega
    rw [ap]
    have e1 : (h.set o (.arr 27 1 (xs.take i ++ xs.drop (i + 1) ++ xs.drop (i + (l.length - (i + 1)))))).obj o = some (.arr 27 1 (xs.take i ++ xs.drop (i + 1) ++ xs.drop (i + (l.length - (i + 1))))) := set_new e
    have f1 : Fr [o] h (h.set o (.arr 27 1 (xs.take i ++ xs.drop (i + 1) ++ xs.drop (i + (l.length - (i + 1)))))) := Fr.set h o _
    have n1 : (h.set o (.arr 27 1 (xs.take i ++ xs.drop (i + 1) ++ xs.drop (i + (l.length - (i + 1)))))).next = h.next := rfl
    revert e1 f1 n1
    generalize h.set o (.arr 27 1 (xs.take i ++ xs.drop (i + 1) ++ xs.drop (i + (l.length - (i + 1))))) = h1
    intro e1 f1 n1
    have hyl : (xs.take i ++ xs.drop (i + 1) ++ xs.drop (i + (l.length - (i + 1)))).length = l.length := by simp; omega
    simp only [go_sem, true_and, and_true, ↓reduceIte, Nat.reduceEqDiff, Nat.reduceAdd, Bool.not_true, Bool.not_false, List.getElem?_cons_zero, List.getElem?_cons_succ, decide_true, decide_false, Bool.false_eq_true, a7]
    refine go_sliceO (off := 0) (len := l.length - 1) (room := l.length) (l := l.length - 1) (n := l.length) e1 rfl ?_ ?_ (by omega) (Nat.le_refl _) (by omega) ?_
    · simp only [Option.map_some, go_sem, ↓reduceIte, Nat.reduceEqDiff, idx_nat, Option.getD_some]
    · simp only [Option.map_some, go_sem, ↓reduceIte, Nat.reduceEqDiff, idx_nat, Option.getD_some, a7]
    simp only [go_sem, true_and, and_true, ↓reduceIte, Nat.reduceEqDiff, Nat.reduceAdd, Bool.not_true, Bool.not_false, List.getElem?_cons_zero, List.getElem?_cons_succ, decide_true, decide_false, Bool.false_eq_true]
    refine go_clear (off := 0 + (l.length - 1)) (len := l.length - (l.length - 1)) (room := l.length - (l.length - 1)) e1 ?_ (by omega) (by omega) rfl ?_
    · simp only [go_sem, true_and, and_true, ↓reduceIte, Nat.reduceEqDiff, Nat.reduceAdd, Bool.not_true, Bool.not_false, List.getElem?_cons_zero, List.getElem?_cons_succ, decide_true, decide_false, Bool.false_eq_true]
    intro h2 f2 n2 e2
    simp only [go_sem, true_and, and_true, ↓reduceIte, Nat.reduceEqDiff, Nat.reduceAdd, Bool.not_true, Bool.not_false, List.getElem?_cons_zero, List.getElem?_cons_succ, decide_true, decide_false, Bool.false_eq_true]
    refine hR _ h2 (.inr ⟨o, _, rfl, ?_, e2, ?_, ?_⟩) (f1.trans f2 (by simp)) (by omega)
    · congr 1
      · simp [List.length_eraseIdx, hi]
      · simp; omega
    · have hq : ((l.eraseIdx i).map lb) = xs.take i ++ xs.drop (i + 1) := by rw [List.eraseIdx_eq_take_drop_succ, List.map_append, List.map_take, List.map_drop, hxs]
      have hql : ((l.eraseIdx i).map lb).length = l.length - 1 := by simp [List.length_eraseIdx, hi]
      rw [hql, hq, Nat.zero_add, List.append_assoc]
      rw [List.take_append_of_le_length (by simp; omega), List.take_take, Nat.min_self]
      have hql2 : (xs.take i ++ xs.drop (i + 1)).length = l.length - 1 := by rw [← hq]; exact hql
      rw [List.take_append_of_le_length (by omega), List.take_of_length_le (by omega)]
    · simp [List.length_eraseIdx, hi]; omega
  have hsl : i - 0 = i := rfl
  by_cases ce : l.length = i + 1
  · refine go_sliceZ (off := 0) (len := l.length) (room := l.length) e rfl ?_ rfl rfl ?_
    · simp only [Option.map_some, go_sem, ↓reduceIte, Nat.reduceEqDiff, idx_nat, Option.getD_some, ce]
    simp only [go_sem, true_and, and_true, ↓reduceIte, Nat.reduceEqDiff, Nat.reduceAdd, Bool.not_true, Bool.not_false, List.getElem?_cons_zero, List.getElem?_cons_succ, decide_true, decide_false, Bool.false_eq_true]
    exact rest _ _ (yread _ (.inr ⟨rfl, ce⟩)) rfl rfl rfl rfl
  · refine go_sliceO (off := 0) (len := l.length) (room := l.length) (l := i + 1) (n := l.length) e rfl ?_ rfl (by omega) (Nat.le_refl _) (by omega) ?_
    · simp only [Option.map_some, go_sem, ↓reduceIte, Nat.reduceEqDiff, idx_nat, Option.getD_some]
    simp only [go_sem, true_and, and_true, ↓reduceIte, Nat.reduceEqDiff, Nat.reduceAdd, Bool.not_true, Bool.not_false, List.getElem?_cons_zero, List.getElem?_cons_succ, decide_true, decide_false, Bool.false_eq_true]
    exact rest _ _ (yread _ (.inl rfl)) rfl rfl rfl rfl

end Go.Am

/- The pair: what was sent and told, by session. -/
namespace Go.Am
open Go.Proofs
variable {G : Nat → V} {h h' h'' : Heap} {fz : List Nat} {a : Tm} {K : Tm → Heap → Prop}

abbrev Ky := Int × Int × Int
abbrev Ac := List (Ky × List (List UInt8))
def keyV (k : Ky) : V := .agg [.int .i64 k.1, .int .i64 k.2.1, .int .i64 k.2.2]
def aGet (k : Ky) : Ac → List (List UInt8)
  | [] => []
  | e :: es => if e.1 = k then e.2 else aGet k es
def aAdd (k : Ky) (ys : List (List UInt8)) : Ac → Ac
  | [] => [(k, ys)]
  | e :: es => if e.1 = k then (e.1, e.2 ++ ys) :: es else e :: aAdd k ys es

theorem aAdd_split {k : Ky} {ys l : List (List UInt8)} {post : Ac} : ∀ {pre : Ac}, (∀ e ∈ pre, e.1 ≠ k) → aAdd k ys (pre ++ (k, l) :: post) = pre ++ (k, l ++ ys) :: post
  | [], _ => by simp [aAdd]
  | e :: pre, hp => by
    simp only [List.cons_append, aAdd]
    rw [if_neg (hp e (by simp)), aAdd_split (fun x hx => hp x (by simp [hx]))]
theorem aAdd_new {k : Ky} {ys : List (List UInt8)} : ∀ {es : Ac}, (∀ e ∈ es, e.1 ≠ k) → aAdd k ys es = es ++ [(k, ys)]
  | [], _ => rfl
  | e :: es, hp => by
    simp only [List.cons_append, aAdd]
    rw [if_neg (hp e (by simp)), aAdd_new (fun x hx => hp x (by simp [hx]))]
theorem aGet_split {k : Ky} {l : List (List UInt8)} {post : Ac} : ∀ {pre : Ac}, (∀ e ∈ pre, e.1 ≠ k) → aGet k (pre ++ (k, l) :: post) = l
  | [], _ => by simp [aGet]
  | e :: pre, hp => by
    simp only [List.cons_append, aGet]
    rw [if_neg (hp e (by simp)), aGet_split (fun x hx => hp x (by simp [hx]))]
theorem aGet_none {k : Ky} : ∀ {es : Ac}, (∀ e ∈ es, e.1 ≠ k) → aGet k es = []
  | [], _ => rfl
  | e :: es, hp => by
    simp only [aGet]
    rw [if_neg (hp e (by simp)), aGet_none (fun x hx => hp x (by simp [hx]))]

inductive Ent (h : Heap) : List En → Ac → List (List Nat) → Prop
  | nil : Ent h [] [] []
  | cons {x : En} {e : Ky × List (List UInt8)} {S : List Nat} {xs : List En} {es : Ac} {Ss : List (List Nat)} (hk : x.key = keyV e.1) (hr : Row h S 27 1 (e.2.map lb) x.val) (ht : Ent h xs es Ss) : Ent h (x :: xs) (e :: es) (S :: Ss)

theorem Ent.lt {xs : List En} {es : Ac} {Ss : List (List Nat)} (w : Ent h xs es Ss) : ∀ k ∈ Ss.flatten, k < h.next := by
  induction w with
  | nil => simp
  | cons _ hr _ ih =>
    intro k hk
    simp only [List.flatten_cons, List.mem_append] at hk
    rcases hk with hk | hk
    · exact hr.lt k hk
    · exact ih k hk
theorem Ent.fr {T : List Nat} {xs : List En} {es : Ac} {Ss : List (List Nat)} (w : Ent h xs es Ss) (f : Fr T h h') (hS : ∀ k ∈ Ss.flatten, k ∉ T) : Ent h' xs es Ss := by
  induction w with
  | nil => exact .nil
  | cons hk hr _ ih => exact .cons hk (hr.fr f (fun k hk => hS k (by simp [hk]))) (ih (fun k hk => hS k (by simp [hk])))
theorem Ent.append {xs ys : List En} {es fs : Ac} {Ss Ts : List (List Nat)} (w : Ent h xs es Ss) (u : Ent h ys fs Ts) : Ent h (xs ++ ys) (es ++ fs) (Ss ++ Ts) := by
  induction w with
  | nil => exact u
  | cons hk hr _ ih => exact .cons hk hr ih

theorem keyEq_k (k k' : Ky) : keyEq (some 3) (keyV k) (keyV k') = some (decide (k' = k)) := by
  obtain ⟨a, b, c⟩ := k
  obtain ⟨a', b', c'⟩ := k'
  simp only [keyV, keyEq, List.length_cons, List.length_nil, Nat.reduceAdd, if_true, eqInts, eqInt, Option.some.injEq, Bool.and_true]
  rw [Bool.eq_iff_iff]
  simp only [Bool.and_eq_true, beq_iff_eq, decide_eq_true_eq, Prod.mk.injEq]
  omega

theorem ent_find (k : Ky) {xs : List En} {es : Ac} {Ss : List (List Nat)} (w : Ent h xs es Ss) :
    (findV (some 3) (keyV k) xs = some none ∧ ∀ e ∈ es, e.1 ≠ k) ∨
    ∃ xpre x xpost epre l epost Spre Sk Spost, xs = xpre ++ x :: xpost ∧ es = epre ++ (k, l) :: epost ∧ Ss = Spre ++ Sk :: Spost ∧ Ent h xpre epre Spre ∧ Ent h xpost epost Spost ∧ x.key = keyV k ∧ Row h Sk 27 1 (l.map lb) x.val ∧
      findV (some 3) (keyV k) xs = some (some (x.val, x.born)) ∧ putAt (some 3) (keyV k) none xs = xs ∧ ∀ e ∈ epre, e.1 ≠ k := by
  induction w with
  | nil => exact .inl ⟨rfl, by simp⟩
  | @cons x e S xs es Ss hk hr ht ih =>
    by_cases c : e.1 = k
    · refine .inr ⟨[], x, xs, [], e.2, es, [], S, Ss, rfl, by rw [← c]; rfl, rfl, .nil, ht, by rw [hk, c], hr, ?_, ?_, by simp⟩
      · simp only [findV, hk, keyEq_k, c, decide_true]
      · simp only [putAt, hk, keyEq_k, c, decide_true, if_true, Option.getD_none]
        rw [← c, ← hk]
    · have kf : keyEq (some 3) (keyV k) x.key = some false := by rw [hk, keyEq_k]; simp [c]
      rcases ih with ⟨q1, q2⟩ | ⟨xpre, x', xpost, epre, l, epost, Spre, Sk, Spost, r1, r2, r3, r4, r5, r6, r7, r8, r9, r10⟩
      · refine .inl ⟨by simp only [findV, kf, q1], fun y hy => ?_⟩
        simp only [List.mem_cons] at hy
        rcases hy with rfl | hy
        · exact c
        · exact q2 y hy
      · refine .inr ⟨x :: xpre, x', xpost, e :: epre, l, epost, S :: Spre, Sk, Spost, by rw [r1]; rfl, by rw [r2]; rfl, by rw [r3]; rfl, .cons hk hr r4, r5, r6, r7, by simp only [findV, kf, r8], ?_, fun y hy => ?_⟩
        · have ne : ¬ (some false = some true) := by simp
          simp only [putAt, kf, ne, if_false, r9]
        · simp only [List.mem_cons] at hy
          rcases hy with rfl | hy
          · exact c
          · exact r10 y hy

theorem findK_k {k : Ky} {xs : List En} : findK (some 3) (keyV k) xs = findV (some 3) (keyV k) xs := by
  have : isKey (some 3) (keyV k) = true := by simp [isKey, keyEq_k]
  simp only [findK, this, if_true]

/-- A map of accounts at m. -/
def AccR (h : Heap) (m : Nat) (es : Ac) (S : List Nat) : Prop := ∃ xs cl Ss, h.obj m = some (.map xs cl) ∧ Ent h xs es Ss ∧ S = m :: Ss.flatten ∧ S.Nodup ∧ (xs.map (·.born)).Nodup ∧ ∀ x ∈ xs, x.born < cl

theorem AccR.lt {m : Nat} {es : Ac} {S : List Nat} (w : AccR h m es S) : ∀ k ∈ S, k < h.next := by
  obtain ⟨xs, cl, Ss, e, w, rfl, _⟩ := w
  intro k hk
  simp only [List.mem_cons] at hk
  rcases hk with rfl | hk
  · exact Heap.lt_next e
  · exact w.lt k hk
theorem AccR.fr {m : Nat} {es : Ac} {S T : List Nat} (w : AccR h m es S) (f : Fr T h h') (hS : ∀ k ∈ S, k ∉ T) : AccR h' m es S := by
  obtain ⟨xs, cl, Ss, e, w, rfl, h1, h2⟩ := w
  exact ⟨xs, cl, Ss, f.at e (hS m (by simp)), w.fr f (fun k hk => hS k (by simp [hk])), rfl, h1, h2⟩
theorem AccR.mem {m : Nat} {es : Ac} {S : List Nat} (w : AccR h m es S) : m ∈ S := by
  obtain ⟨xs, cl, Ss, e, w, rfl, _⟩ := w
  simp

/-- m[k]. -/
theorem go_lookA {i : Ins} {x y : Opd} {m : Nat} {es : Ac} {S : List Nat} {k : Ky} (w : AccR h m es S) (hx : x.ev G a = .map m) (hy : y.ev G a = keyV k)
    (hk : ∀ v Sk, Row h Sk 27 1 ((aGet k es).map lb) v → (∀ j ∈ Sk, j ∈ S) → putD G fz i K a v h) : goO G fz i K a (stepI G a h (.lookup (some 3) .nil x y false)) := by
  obtain ⟨xs, cl, Ss, e, w, rfl, h1, h2⟩ := w
  rcases ent_find k w with ⟨q1, q2⟩ | ⟨xpre, x', xpost, epre, l, epost, Spre, Sk, Spost, r1, r2, r3, r4, r5, r6, r7, r8, r9, r10⟩
  · have : stepI G a h (.lookup (some 3) .nil x y false) = some (.nil, h) := by
      simp only [stepI, hx, hy, lookV, e, findK_k, q1, Option.map_some]
      rfl
    rw [this]
    refine hk .nil [] ?_ (by simp)
    rw [aGet_none q2]
    exact Row.nil
  · have : stepI G a h (.lookup (some 3) .nil x y false) = some (x'.val, h) := by
      simp only [stepI, hx, hy, lookV, e, findK_k, r8, Option.map_some]
      rfl
    rw [this]
    refine hk x'.val Sk ?_ (fun j hj => ?_)
    · rw [r2, aGet_split r10]
      exact r7
    · rw [r3]
      simp [hj]

/-- Accounts, one of which is out. -/
def AccO (h : Heap) (m : Nat) (k : Ky) (born : Nat) (f : List (List UInt8) → Ac) (S : List Nat) : Prop :=
  ∃ xpre x xpost epre epost Spre Spost cl, h.obj m = some (.map (xpre ++ x :: xpost) cl) ∧ Ent h xpre epre Spre ∧ Ent h xpost epost Spost ∧ x.key = keyV k ∧ x.born = born ∧ (∀ l, f l = epre ++ (k, l) :: epost) ∧ S = m :: (Spre.flatten ++ Spost.flatten) ∧ S.Nodup ∧ ((xpre ++ x :: xpost).map (·.born)).Nodup ∧ ∀ x' ∈ xpre ++ x :: xpost, x'.born < cl

theorem AccO.fr {m : Nat} {k : Ky} {n : Nat} {f : List (List UInt8) → Ac} {S T : List Nat} (w : AccO h m k n f S) (g : Fr T h h') (hS : ∀ j ∈ S, j ∉ T) : AccO h' m k n f S := by
  obtain ⟨xpre, x, xpost, epre, epost, Spre, Spost, cl, e, w1, w2, h1, h2, h3, rfl, h4⟩ := w
  exact ⟨xpre, x, xpost, epre, epost, Spre, Spost, cl, g.at e (hS m (by simp)), w1.fr g (fun j hj => hS j (by simp [hj])), w2.fr g (fun j hj => hS j (by simp [hj])), h1, h2, h3, rfl, h4⟩

/-- m[k] is reached for writing. -/
theorem go_mentryA {i : Ins} {x y : Opd} {m : Nat} {es : Ac} {S : List Nat} {k : Ky} (w : AccR h m es S) (hx : x.ev G a = .map m) (hy : y.ev G a = keyV k)
    (hk : ∀ v n f Sk S' h', Row h' Sk 27 1 ((aGet k es).map lb) v → AccO h' m k n f S' → (∀ ys, f (aGet k es ++ ys) = aAdd k ys es) → (∀ j, j ∈ S ↔ j ∈ Sk ∨ j ∈ S') → (∀ j ∈ Sk, j ∉ S') → Fr [m] h h' → h'.next = h.next → putD G fz i K a (.tup [v, .int .i64 (n : Nat)]) h') : goO G fz i K a (stepI G a h (.mentry (some 3) .nil x y)) := by
  obtain ⟨xs, cl, Ss, e, w, rfl, h1, h2, h3⟩ := w
  have hm : m ∉ Ss.flatten := (List.nodup_cons.1 h1).1
  rcases ent_find k w with ⟨q1, q2⟩ | ⟨xpre, x', xpost, epre, l, epost, Spre, Sk, Spost, r1, r2, r3, r4, r5, r6, r7, r8, r9, r10⟩
  · have : stepI G a h (.mentry (some 3) .nil x y) = some (.tup [.nil, .int .i64 (cl : Nat)], h.set m (.map (xs ++ [⟨keyV k, .nil, cl⟩]) (cl + 1))) := by
      simp only [stepI, hx, hy, e, findK_k, q1]
      rfl
    rw [this]
    have f1 := Fr.set h m (.map (xs ++ [⟨keyV k, .nil, cl⟩]) (cl + 1))
    refine hk .nil cl (fun l => es ++ [(k, l)]) [] (m :: Ss.flatten) _ ?_ ⟨xs, ⟨keyV k, .nil, cl⟩, [], es, [], Ss, [], cl + 1, set_new e, w.fr f1 (fun j hj hh => by simp at hh; exact hm (hh ▸ hj)), .nil, rfl, rfl, fun l => rfl, by simp, h1, ?_, ?_⟩ (fun ys => ?_) (fun j => by simp) (by simp) f1 rfl
    · rw [aGet_none q2]
      exact Row.nil
    · rw [List.map_append, List.nodup_append]
      refine ⟨h2, by simp, fun j hj j' hj' => ?_⟩
      simp at hj'
      subst hj'
      obtain ⟨z, hz, rfl⟩ := List.mem_map.1 hj
      have := h3 z hz
      omega
    · intro z hz
      simp only [List.mem_append, List.mem_singleton] at hz
      rcases hz with hz | rfl
      · have := h3 z hz; omega
      · simp
    · rw [aGet_none q2, aAdd_new q2]
      rfl
  · have : stepI G a h (.mentry (some 3) .nil x y) = some (.tup [x'.val, .int .i64 (x'.born : Nat)], h.set m (.map xs cl)) := by
      simp only [stepI, hx, hy, e, findK_k, r8, touchMap, r9]
      rfl
    rw [this]
    have f1 := Fr.set h m (.map xs cl)
    have hfl : Ss.flatten = Spre.flatten ++ (Sk ++ Spost.flatten) := by rw [r3]; simp
    rw [hfl] at hm
    simp only [List.mem_append, not_or] at hm
    have nd := h1
    rw [hfl] at nd
    simp only [List.nodup_cons, List.mem_append, List.nodup_append, not_or] at nd
    refine hk x'.val x'.born (fun l => epre ++ (k, l) :: epost) Sk (m :: (Spre.flatten ++ Spost.flatten)) _ ?_ ⟨xpre, x', xpost, epre, epost, Spre, Spost, cl, by rw [← r1]; exact set_new e, r4.fr f1 (fun j hj hh => by simp at hh; exact hm.1 (hh ▸ hj)), r5.fr f1 (fun j hj hh => by simp at hh; exact hm.2.2 (hh ▸ hj)), r6, rfl, fun l => rfl, rfl, ?_, by rw [← r1]; exact h2, by rw [← r1]; exact h3⟩ (fun ys => ?_) (fun j => ?_) (fun j hj hh => ?_) f1 rfl
    · rw [r2, aGet_split r10]
      exact r7.fr f1 (fun j hj hh => by simp at hh; exact hm.2.1 (hh ▸ hj))
    · simp only [List.nodup_cons, List.mem_append, List.nodup_append, not_or]
      exact ⟨⟨nd.1.1, nd.1.2.2⟩, nd.2.1, nd.2.2.1.2.1, fun p hp q hq => nd.2.2.2 p hp q (.inr hq)⟩
    · rw [r2, aGet_split r10, aAdd_split r10]
    · rw [hfl]
      simp only [List.mem_cons, List.mem_append]
      constructor
      · rintro (q | q | q | q) <;> simp [q]
      · rintro (q | q | q | q) <;> simp [q]
    · simp only [List.mem_cons, List.mem_append] at hh
      rcases hh with q | q | q
      · exact nd.1.2.1 (q ▸ hj)
      · exact nd.2.2.2 j q j (.inl hj) rfl
      · exact nd.2.2.1.2.2 j hj j q rfl

theorem putBorn_mid {n : Nat} {v : V} {x : En} {ys : List En} (hx : x.born = n) : ∀ {xs : List En}, (∀ y ∈ xs, y.born ≠ n) → putBorn n v (xs ++ x :: ys) = some (xs ++ { x with val := v } :: ys)
  | [], _ => by simp [putBorn, hx]
  | y :: xs, hp => by
    simp only [List.cons_append, putBorn]
    rw [if_neg (hp y (by simp)), putBorn_mid hx (fun z hz => hp z (by simp [hz]))]
    rfl

/-- What was reached is written. -/
theorem go_estoreA {i : Ins} {x s y : Opd} {m n : Nat} {k : Ky} {f : List (List UInt8) → Ac} {S Sk : List Nat} {l : List (List UInt8)} {v : V} (w : AccO h m k n f S) (r : Row h Sk 27 1 (l.map lb) v) (hd : ∀ j ∈ Sk, j ∉ S) (hx : x.ev G a = .map m) (hs : s.ev G a = .int .i64 (n : Nat)) (hy : y.ev G a = v)
    (hk : ∀ h' S', AccR h' m (f l) S' → (∀ j, j ∈ S' ↔ j ∈ Sk ∨ j ∈ S) → Fr [m] h h' → h'.next = h.next → putD G fz i K a .undef h') : goO G fz i K a (stepI G a h (.estore x s y)) := by
  obtain ⟨xpre, x', xpost, epre, epost, Spre, Spost, cl, e, w1, w2, h1, h2, h3, rfl, h4, h5, h6⟩ := w
  have hb : ∀ z ∈ xpre, z.born ≠ n := by
    intro z hz hzn
    rw [List.map_append, List.nodup_append] at h5
    exact h5.2.2 z.born (List.mem_map_of_mem hz) x'.born (by simp) (by rw [hzn, h2])
  have : stepI G a h (.estore x s y) = some (.undef, h.set m (.map (xpre ++ { x' with val := v } :: xpost) cl)) := by
    simp only [stepI, hx, hs, hy, e]
    rw [if_pos (Int.natCast_nonneg n), Int.toNat_natCast, putBorn_mid h2 hb]
    rfl
  rw [this]
  have f1 := Fr.set h m (.map (xpre ++ { x' with val := v } :: xpost) cl)
  have nd := h4
  simp only [List.nodup_cons, List.mem_append, List.nodup_append, not_or] at nd
  have hmk : m ∉ Sk := fun hm => hd m hm (by simp)
  refine hk _ (m :: (Spre.flatten ++ (Sk ++ Spost.flatten))) ⟨_, cl, Spre ++ Sk :: Spost, set_new e, ?_, by simp, ?_, ?_, ?_⟩ (fun j => ?_) f1 rfl
  · rw [h3]
    refine (w1.fr f1 (fun j hj hh => by simp at hh; exact nd.1.1 (hh ▸ hj))).append (.cons h1 ?_ (w2.fr f1 (fun j hj hh => by simp at hh; exact nd.1.2 (hh ▸ hj))))
    exact r.fr f1 (fun j hj hh => by simp at hh; exact hmk (hh ▸ hj))
  · simp only [List.nodup_cons, List.mem_append, List.nodup_append, not_or]
    have hd' : ∀ j ∈ Sk, ¬ j = m ∧ j ∉ Spre.flatten ∧ j ∉ Spost.flatten := fun j hj => by
      have := hd j hj
      simp only [List.mem_cons, List.mem_append, not_or] at this
      exact this
    refine ⟨⟨nd.1.1, hmk, nd.1.2⟩, nd.2.1, ⟨r.nodup, nd.2.2.1, fun p hp q hq e => (hd' p hp).2.2 (e ▸ hq)⟩, fun p hp q hq e => ?_⟩
    rcases hq with hq | hq
    · exact (hd' q hq).2.1 (e ▸ hp)
    · exact nd.2.2.2 p hp q hq e
  · have : (xpre ++ { x' with val := v } :: xpost).map (·.born) = (xpre ++ x' :: xpost).map (·.born) := by simp
    rw [this]
    exact h5
  · intro z hz
    simp only [List.mem_append, List.mem_cons] at hz
    rcases hz with hz | rfl | hz
    · exact h6 z (by simp [hz])
    · exact h6 x' (by simp)
    · exact h6 z (by simp [hz])
  · simp only [List.mem_cons, List.mem_append]
    constructor
    · rintro (q | q | q | q) <;> simp [q]
    · rintro (q | q | q | q) <;> simp [q]

end Go.Am
