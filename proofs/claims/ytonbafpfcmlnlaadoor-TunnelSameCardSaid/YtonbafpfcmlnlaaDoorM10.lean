/- Parts of the proof, one after another; what each part shows stands at its head. No conditions. -/
import Derived.Test.YtonbafpfcmlnlaaDoorM9
import Derived.Test.YtonbafpfcmlnlaaDoorRows
import Derived.ProofKit
import Derived.OpenShut
import Derived.Deep.Slices
import Derived.LaidLaws
import Derived.Handed
set_option linter.all false

/- TunnelSame. -/
namespace Go.Am
open Go.Proofs
variable {G : Nat → V} {h h' h'' : Heap} {fz : List Nat} {a : Tm} {K : Tm → Heap → Prop}

theorem nibs_gt : Nibs Gt := rfl

theorem mem_of_pair {p : Nat} {P : Pr} {S : List Nat} (q : PairR h p P S) : ∃ ta bv ms mt Sp, PairP h p P ta bv ms mt Sp ∧ ∀ k, k ∈ S ↔ k ∈ allS Sp := by
  obtain ⟨ta, bv, ms, mt, Sp, q, hS⟩ := q
  exact ⟨ta, bv, ms, mt, Sp, q, fun k => (hS k).trans mem_allS.symm⟩
theorem PairP.r {p : Nat} {P : Pr} {ta : Nat → Nat} {bv : Nat → V} {ms mt : Nat} {Sp : Nat → List Nat} (q : PairP h p P ta bv ms mt Sp) : PairR h p P (allS Sp) := ⟨ta, bv, ms, mt, Sp, q, fun _ => mem_allS⟩
theorem Up.eqv {S S' T T' : List Nat} (u : Up h h' S T) (h1 : ∀ k, k ∈ S' ↔ k ∈ S) (h2 : ∀ k, k ∈ T' ↔ k ∈ T) : Up h h' S' T' := by
  refine ⟨u.fr.mono (fun k hk => (h1 k).2 hk), fun k hk => ?_⟩
  rcases u.sub k ((h2 k).1 hk) with g | g
  · exact .inl ((h1 k).2 g)
  · exact .inr g

theorem doesR (hG : Nibs G) (A : Ac1) {n p : Nat} {P : Pr} {S : List Nat} (q : PairR h p P S) (I : PrI n P) (hn : n ≤ 20000) (R : V → Heap → Prop)
    (hR : ∀ h' S', PairR h' p (P.does A).1 S' → Up h h' S S' → R (.bool (P.does A).2) h') : Calls0 Tryd.prog G 15 [.ptr p 0 0, A.v] h R := by
  obtain ⟨ta, bv, ms, mt, Sp, q, hS⟩ := mem_of_pair q
  refine does_spec hG A q (I.dob hn) (I.act A).ou R ?_
  intro h1 ta1 bv1 Sp1 q1 u1
  exact hR h1 (allS Sp1) q1.r (u1.eqv hS (fun _ => Iff.rfl))
theorem begunR (R : V → Heap → Prop) (hR : ∀ p h' S', PairR h' p Pr.begun S' → Fr [] h h' → (∀ k ∈ S', h.next ≤ k) → R (.ptr p 0 0) h') : Calls0 Tryd.prog G 14 [] h R := by
  refine begun_spec R ?_
  intro p h1 ta bv ms mt Sp q f s
  exact hR p h1 (allS Sp) q.r f s

/-- Apart. -/
def Ap (S T : List Nat) : Prop := ∀ k ∈ S, k ∉ T
theorem Ap.symm {S T : List Nat} (a : Ap S T) : Ap T S := fun k hk hm => a k hm hk
theorem Ap.up {S T S' : List Nat} (a : Ap S T) (u : Up h h' S S') (hT : ∀ k ∈ T, k < h.next) : Ap S' T := fun k hk hm => by
  rcases u.sub k hk with g | g
  · exact a k g hm
  · have := hT k hm; omega

/-- The first acts, one after another. -/
def Pr.run (P : Pr) : List Ac1 → Pr
  | [] => P
  | A :: l => Pr.run (P.does A).1 l
theorem run_snoc (P : Pr) (l : List Ac1) (A : Ac1) : P.run (l ++ [A]) = ((P.run l).does A).1 := by
  induction l generalizing P with
  | nil => rfl
  | cons B l ih => exact ih _
theorem run_I {n : Nat} {P : Pr} (I : PrI n P) (l : List Ac1) : PrI (n + l.length) (P.run l) := by
  induction l generalizing n P with
  | nil => exact I
  | cons B l ih =>
    have := ih (I.does B)
    rw [show n + 1 + l.length = n + (B :: l).length from by simp; omega] at this
    exact this

theorem PrI.mono {n m : Nat} {P : Pr} (I : PrI n P) (h : n ≤ m) : PrI m P :=
  ⟨fun i hi => (I.t i hi).mono h, I.o, I.bag, fun k => by have := I.sent k; omega, fun k => by have := I.told k; omega⟩

def zeroA : List V := [.int .i64 0, .int .i64 0, .int .i64 0, .nil, .bool false]

set_option maxHeartbeats 1000000 in
/-- Both pairs are held against one another. -/
theorem same_end {n p q : Nat} {P : Pr} {S T : List Nat} (x : PairR h p P S) (y : PairR h q P T) (I : PrI n P) (a5 : a 5 = .ptr p 0 0) (a6 : a 6 = .ptr q 0 0) (R : V → Heap → Prop) (hR : R (.bool true) h) :
    wpC (Calls0 Tryd.prog Gt) Gt [] fn6u11 (postF R [.tmp 4]) a h := by
  obtain ⟨ta, bv, ms, mt, Sp, x, _⟩ := x
  obtain ⟨tb, bw, ns, nt, Sq, y, _⟩ := y
  simp only [go_sem, true_and, and_true, ↓reduceIte, Nat.reduceEqDiff, Nat.reduceAdd, Bool.not_true, Bool.not_false, List.getElem?_cons_zero, List.getElem?_cons_succ, decide_true, decide_false, Bool.false_eq_true, fn6u11]
  refine w_loop (fun a h' n => n ≤ 2 ∧ h = h' ∧ a 5 = .ptr p 0 0 ∧ a 6 = .ptr q 0 0 ∧ a 49 = .int .i64 ((2 - n : Nat) : Int)) 2 ?_ ?_
  · refine ⟨Nat.le_refl _, rfl, ?_, ?_, ?_⟩
    · simp only [go_sem, true_and, and_true, ↓reduceIte, Nat.reduceEqDiff, Nat.reduceAdd, Bool.not_true, Bool.not_false, List.getElem?_cons_zero, List.getElem?_cons_succ, decide_true, decide_false, Bool.false_eq_true, a5]
    · simp only [go_sem, true_and, and_true, ↓reduceIte, Nat.reduceEqDiff, Nat.reduceAdd, Bool.not_true, Bool.not_false, List.getElem?_cons_zero, List.getElem?_cons_succ, decide_true, decide_false, Bool.false_eq_true, a6]
    · simp only [go_sem, true_and, and_true, ↓reduceIte, Nat.reduceEqDiff, Nat.reduceAdd, Bool.not_true, Bool.not_false, List.getElem?_cons_zero, List.getElem?_cons_succ, decide_true, decide_false, Bool.false_eq_true]
      rfl
  · rintro a h1 m ⟨hm, rfl, b5, b6, b49⟩
    cases m with
    | zero =>
      have ci : ¬ ((2 - 0 : Nat) : Int) < 2 := by omega
      simp only [go_sem, true_and, and_true, ↓reduceIte, Nat.reduceEqDiff, Nat.reduceAdd, Bool.not_true, Bool.not_false, List.getElem?_cons_zero, List.getElem?_cons_succ, decide_true, decide_false, Bool.false_eq_true, fn6u9, b49, ci, fn6u10]
      refine awake_spec _ ?_
      simp only [go_sem, true_and, and_true, ↓reduceIte, Nat.reduceEqDiff, Nat.reduceAdd, Bool.not_true, Bool.not_false, List.getElem?_cons_zero, List.getElem?_cons_succ, decide_true, decide_false, Bool.false_eq_true]
      exact hR
    | succ m =>
      obtain ⟨i, hi⟩ : ∃ i, 2 - (m + 1) = i := ⟨_, rfl⟩
      rw [hi] at b49
      have hi2 : i < 2 := by omega
      have ci : (i : Int) < 2 := by omega
      have wi : IntKind.i64.wrap ((i : Int) + 1) = ((2 - m : Nat) : Int) := by rw [wrap64 (by omega) (by omega)]; omega
      have lt1 : loadV h false 1 (.ptr p 0 i) = some (.ptr (ta i) 0 0) := ld0 x.obj (prC_tun hi2)
      have lt2 : loadV h false 1 (.ptr q 0 i) = some (.ptr (tb i) 0 0) := ld0 y.obj (prC_tun hi2)
      have lb1 : loadV h false 1 (.ptr p 0 (2 + i)) = some (bv i) := ld0 x.obj (prC_bag hi2)
      have lb2 : loadV h false 1 (.ptr q 0 (2 + i)) = some (bw i) := ld0 y.obj (prC_bag hi2)
      have hb := (I.bag i hi2).1
      have ht := I.t i hi2
      have hw := ht.wl
      obtain ⟨wv, qv, ev, ov, So, Sm, pT, _⟩ := x.tun i hi2
      obtain ⟨wv', qv', ev', ov', So', Sm', pT', _⟩ := y.tun i hi2
      simp only [go_sem, true_and, and_true, ↓reduceIte, Nat.reduceEqDiff, Nat.reduceAdd, Bool.not_true, Bool.not_false, List.getElem?_cons_zero, List.getElem?_cons_succ, decide_true, decide_false, Bool.false_eq_true, fn6u9, fn6u8, b49, ci, b5, b6, idx_nat, hi2, Nat.mul_one, Nat.zero_add, lt1, lt2, lb1, lb2]
      refine rows_spec _ _ (P.bag i) (P.bag i) ((x.bag i hi2).rs (lb_cells1 _)) ((y.bag i hi2).rs (lb_cells1 _)) (by omega) (by omega) _ ?_
      simp only [go_sem, true_and, and_true, ↓reduceIte, Nat.reduceEqDiff, Nat.reduceAdd, Bool.not_true, Bool.not_false, List.getElem?_cons_zero, List.getElem?_cons_succ, decide_true, decide_false, Bool.false_eq_true]
      refine me_spec pT ht.me.1 _ ?_
      simp only [go_sem, true_and, and_true, ↓reduceIte, Nat.reduceEqDiff, Nat.reduceAdd, Bool.not_true, Bool.not_false, List.getElem?_cons_zero, List.getElem?_cons_succ, decide_true, decide_false, Bool.false_eq_true]
      refine me_spec pT' ht.me.1 _ ?_
      simp only [go_sem, true_and, and_true, ↓reduceIte, Nat.reduceEqDiff, Nat.reduceAdd, Bool.not_true, Bool.not_false, List.getElem?_cons_zero, List.getElem?_cons_succ, decide_true, decide_false, Bool.false_eq_true, bne_self_eq_false]
      refine you_spec pT ht.me.1 _ ?_
      simp only [go_sem, true_and, and_true, ↓reduceIte, Nat.reduceEqDiff, Nat.reduceAdd, Bool.not_true, Bool.not_false, List.getElem?_cons_zero, List.getElem?_cons_succ, decide_true, decide_false, Bool.false_eq_true]
      refine you_spec pT' ht.me.1 _ ?_
      simp only [go_sem, true_and, and_true, ↓reduceIte, Nat.reduceEqDiff, Nat.reduceAdd, Bool.not_true, Bool.not_false, List.getElem?_cons_zero, List.getElem?_cons_succ, decide_true, decide_false, Bool.false_eq_true, bne_self_eq_false]
      refine up_spec pT ht.me.1 _ ?_
      simp only [go_sem, true_and, and_true, ↓reduceIte, Nat.reduceEqDiff, Nat.reduceAdd, Bool.not_true, Bool.not_false, List.getElem?_cons_zero, List.getElem?_cons_succ, decide_true, decide_false, Bool.false_eq_true]
      refine up_spec pT' ht.me.1 _ ?_
      simp only [go_sem, true_and, and_true, ↓reduceIte, Nat.reduceEqDiff, Nat.reduceAdd, Bool.not_true, Bool.not_false, List.getElem?_cons_zero, List.getElem?_cons_succ, decide_true, decide_false, Bool.false_eq_true, bne_self_eq_false, BEq.rfl]
      refine epoch_spec pT ht.me.1 _ ?_
      simp only [go_sem, true_and, and_true, ↓reduceIte, Nat.reduceEqDiff, Nat.reduceAdd, Bool.not_true, Bool.not_false, List.getElem?_cons_zero, List.getElem?_cons_succ, decide_true, decide_false, Bool.false_eq_true]
      refine epoch_spec pT' ht.me.1 _ ?_
      simp only [go_sem, true_and, and_true, ↓reduceIte, Nat.reduceEqDiff, Nat.reduceAdd, Bool.not_true, Bool.not_false, List.getElem?_cons_zero, List.getElem?_cons_succ, decide_true, decide_false, Bool.false_eq_true, bne_self_eq_false]
      refine waiting_spec pT ht.me.1 (by unfold Tn.waiting; omega) _ ?_
      simp only [go_sem, true_and, and_true, ↓reduceIte, Nat.reduceEqDiff, Nat.reduceAdd, Bool.not_true, Bool.not_false, List.getElem?_cons_zero, List.getElem?_cons_succ, decide_true, decide_false, Bool.false_eq_true]
      refine waiting_spec pT' ht.me.1 (by unfold Tn.waiting; omega) _ ?_
      simp only [go_sem, true_and, and_true, ↓reduceIte, Nat.reduceEqDiff, Nat.reduceAdd, Bool.not_true, Bool.not_false, List.getElem?_cons_zero, List.getElem?_cons_succ, decide_true, decide_false, Bool.false_eq_true, bne_self_eq_false, fn6u6, fn6u7, b49, wi]
      exact ⟨m, by omega, by omega, b5, b6, rfl⟩

set_option maxHeartbeats 1000000 in
theorem same_law (l o : List Ac1) (R : V → Heap → Prop) (hR : ∀ h', Fr [] h h' → R (.bool true) h') : Calls0 Tryd.prog Gt 6 [acts l, acts o] h R := by
  refine fn_walk mixed fn6uis [] rfl ?_
  simp only [go_sem, true_and, and_true, ↓reduceIte, Nat.reduceEqDiff, Nat.reduceAdd, Bool.not_true, Bool.not_false, List.getElem?_cons_zero, List.getElem?_cons_succ, decide_true, decide_false, Bool.false_eq_true, fn6]
  refine few_spec l _ ?_
  intro b1 hb1
  cases b1 with
  | false =>
    simp only [go_sem, true_and, and_true, ↓reduceIte, Nat.reduceEqDiff, Nat.reduceAdd, Bool.not_true, Bool.not_false, List.getElem?_cons_zero, List.getElem?_cons_succ, decide_true, decide_false, Bool.false_eq_true, fn6u1]
    refine awake_spec _ ?_
    simp only [go_sem, true_and, and_true, ↓reduceIte, Nat.reduceEqDiff, Nat.reduceAdd, Bool.not_true, Bool.not_false, List.getElem?_cons_zero, List.getElem?_cons_succ, decide_true, decide_false, Bool.false_eq_true]
    exact hR h (Fr.refl _ _)
  | true =>
  simp only [go_sem, true_and, and_true, ↓reduceIte, Nat.reduceEqDiff, Nat.reduceAdd, Bool.not_true, Bool.not_false, List.getElem?_cons_zero, List.getElem?_cons_succ, decide_true, decide_false, Bool.false_eq_true]
  refine few_spec o _ ?_
  intro b2 hb2
  cases b2 with
  | false =>
    simp only [go_sem, true_and, and_true, ↓reduceIte, Nat.reduceEqDiff, Nat.reduceAdd, Bool.not_true, Bool.not_false, List.getElem?_cons_zero, List.getElem?_cons_succ, decide_true, decide_false, Bool.false_eq_true, fn6u1]
    refine awake_spec _ ?_
    simp only [go_sem, true_and, and_true, ↓reduceIte, Nat.reduceEqDiff, Nat.reduceAdd, Bool.not_true, Bool.not_false, List.getElem?_cons_zero, List.getElem?_cons_succ, decide_true, decide_false, Bool.false_eq_true]
    exact hR h (Fr.refl _ _)
  | true =>
  have hl := hb1 rfl
  have ho := hb2 rfl
  have ll := acts_len l
  have lo := acts_len o
  simp only [go_sem, true_and, and_true, ↓reduceIte, Nat.reduceEqDiff, Nat.reduceAdd, Bool.not_true, Bool.not_false, List.getElem?_cons_zero, List.getElem?_cons_succ, decide_true, decide_false, Bool.false_eq_true, fn6u1, fn6u12]
  refine begunR _ ?_
  intro p h1 Sp q1 f1 s1
  simp only [go_sem, true_and, and_true, ↓reduceIte, Nat.reduceEqDiff, Nat.reduceAdd, Bool.not_true, Bool.not_false, List.getElem?_cons_zero, List.getElem?_cons_succ, decide_true, decide_false, Bool.false_eq_true]
  refine begunR _ ?_
  intro q h2 Sq r2 f2 s2
  simp only [go_sem, true_and, and_true, ↓reduceIte, Nat.reduceEqDiff, Nat.reduceAdd, Bool.not_true, Bool.not_false, List.getElem?_cons_zero, List.getElem?_cons_succ, decide_true, decide_false, Bool.false_eq_true]
  refine begunR _ ?_
  intro x h3 Sx x3 f3 s3
  have q3 := (q1.fr f2 (fun k hk => by simp)).fr f3 (fun k hk => by simp)
  have r3 := r2.fr f3 (fun k hk => by simp)
  have a12 : Ap Sp Sq := fun k hk hm => by have := q1.lt k hk; have := s2 k hm; omega
  have a13 : Ap Sp Sx := fun k hk hm => by have := q1.lt k hk; have := s3 k hm; have := f2.next; omega
  have a23 : Ap Sq Sx := fun k hk hm => by have := r2.lt k hk; have := s3 k hm; omega
  have f03 : Fr [] h h3 := (f1.trans f2 (by simp)).trans f3 (by simp)
  have m1 : ∀ k ∈ Sp, h.next ≤ k := s1
  have m2 : ∀ k ∈ Sq, h.next ≤ k := fun k hk => by have := s2 k hk; have := f1.next; omega
  have m3 : ∀ k ∈ Sx, h.next ≤ k := fun k hk => by have := s3 k hk; have := f1.next; have := f2.next; omega
  simp only [go_sem, true_and, and_true, ↓reduceIte, Nat.reduceEqDiff, Nat.reduceAdd, Bool.not_true, Bool.not_false, List.getElem?_cons_zero, List.getElem?_cons_succ, decide_true, decide_false, Bool.false_eq_true, ll]
  refine w_loop (fun a h' n => n ≤ l.length ∧ a 0 = acts l ∧ a 1 = acts o ∧ a 5 = .ptr p 0 0 ∧ a 6 = .ptr q 0 0 ∧ a 7 = .ptr x 0 0 ∧ a 25 = acts l ∧ a 26 = .int .i64 l.length ∧ a 27 = .int .i64 ((l.length - n : Nat) : Int) ∧
    ∃ X Sp Sq Sx, PairR h' p (Pr.begun.run (l.take (l.length - n))) Sp ∧ PairR h' q (Pr.begun.run (l.take (l.length - n))) Sq ∧ PairR h' x X Sx ∧ PrI (l.length - n) X ∧ Ap Sp Sq ∧ Ap Sp Sx ∧ Ap Sq Sx ∧ (∀ k ∈ Sp, h.next ≤ k) ∧ (∀ k ∈ Sq, h.next ≤ k) ∧ (∀ k ∈ Sx, h.next ≤ k) ∧ Fr [] h h') l.length ?_ ?_
  · refine ⟨Nat.le_refl _, ?_, ?_, ?_, ?_, ?_, ?_, ?_, ?_, Pr.begun, Sp, Sq, Sx, ?_, ?_, x3, ?_, a12, a13, a23, m1, m2, m3, f03⟩
    · simp only [go_sem, true_and, and_true, ↓reduceIte, Nat.reduceEqDiff, Nat.reduceAdd, Bool.not_true, Bool.not_false, List.getElem?_cons_zero, List.getElem?_cons_succ, decide_true, decide_false, Bool.false_eq_true]
    · simp only [go_sem, true_and, and_true, ↓reduceIte, Nat.reduceEqDiff, Nat.reduceAdd, Bool.not_true, Bool.not_false, List.getElem?_cons_zero, List.getElem?_cons_succ, decide_true, decide_false, Bool.false_eq_true]
    · simp only [go_sem, true_and, and_true, ↓reduceIte, Nat.reduceEqDiff, Nat.reduceAdd, Bool.not_true, Bool.not_false, List.getElem?_cons_zero, List.getElem?_cons_succ, decide_true, decide_false, Bool.false_eq_true]
    · simp only [go_sem, true_and, and_true, ↓reduceIte, Nat.reduceEqDiff, Nat.reduceAdd, Bool.not_true, Bool.not_false, List.getElem?_cons_zero, List.getElem?_cons_succ, decide_true, decide_false, Bool.false_eq_true]
    · simp only [go_sem, true_and, and_true, ↓reduceIte, Nat.reduceEqDiff, Nat.reduceAdd, Bool.not_true, Bool.not_false, List.getElem?_cons_zero, List.getElem?_cons_succ, decide_true, decide_false, Bool.false_eq_true]
    · simp only [go_sem, true_and, and_true, ↓reduceIte, Nat.reduceEqDiff, Nat.reduceAdd, Bool.not_true, Bool.not_false, List.getElem?_cons_zero, List.getElem?_cons_succ, decide_true, decide_false, Bool.false_eq_true]
    · simp only [go_sem, true_and, and_true, ↓reduceIte, Nat.reduceEqDiff, Nat.reduceAdd, Bool.not_true, Bool.not_false, List.getElem?_cons_zero, List.getElem?_cons_succ, decide_true, decide_false, Bool.false_eq_true]
    · simp only [go_sem, true_and, and_true, ↓reduceIte, Nat.reduceEqDiff, Nat.reduceAdd, Bool.not_true, Bool.not_false, List.getElem?_cons_zero, List.getElem?_cons_succ, decide_true, decide_false, Bool.false_eq_true, Nat.sub_self]
      rfl
    · rw [Nat.sub_self]; exact q3
    · rw [Nat.sub_self]; exact r3
    · rw [Nat.sub_self]; exact PrI.begun
  · clear q3 r3 x3 q1 r2 a12 a13 a23 m1 m2 m3 s1 s2 s3 f03 f1 f2 f3
    clear Sp Sq Sx h1 h2 h3
    rintro a h1 n ⟨hn, a0, a1, a5, a6, a7, a25, a26, a27, X, Sp, Sq, Sx, q1, r1, x1, IX, a12, a13, a23, m1, m2, m3, f1⟩
    cases n with
    | zero =>
      have ci : ¬ ((l.length - 0 : Nat) : Int) < l.length := by omega
      rw [Nat.sub_zero, List.take_length] at q1 r1
      simp only [go_sem, true_and, and_true, ↓reduceIte, Nat.reduceEqDiff, Nat.reduceAdd, Bool.not_true, Bool.not_false, List.getElem?_cons_zero, List.getElem?_cons_succ, decide_true, decide_false, Bool.false_eq_true, fn6u5, a26, a27, ci]
      have I := run_I PrI.begun l
      refine same_end q1 r1 I ?_ ?_ R (hR h1 f1)
      · simp only [go_sem, true_and, and_true, ↓reduceIte, Nat.reduceEqDiff, Nat.reduceAdd, Bool.not_true, Bool.not_false, List.getElem?_cons_zero, List.getElem?_cons_succ, decide_true, decide_false, Bool.false_eq_true, a5]
      · simp only [go_sem, true_and, and_true, ↓reduceIte, Nat.reduceEqDiff, Nat.reduceAdd, Bool.not_true, Bool.not_false, List.getElem?_cons_zero, List.getElem?_cons_succ, decide_true, decide_false, Bool.false_eq_true, a6]
    | succ n =>
      obtain ⟨i, hi⟩ : ∃ i, l.length - (n + 1) = i := ⟨_, rfl⟩
      rw [hi] at a27 q1 r1 IX
      have hlt : i < l.length := by omega
      have ci : (i : Int) < l.length := by omega
      have wi : IntKind.i64.wrap ((i : Int) + 1) = ((l.length - n : Nat) : Int) := by rw [wrap64 (by omega) (by omega)]; omega
      have tk : l.take (l.length - n) = l.take i ++ [l[i]] := by
        rw [show l.length - n = i + 1 from by omega, List.take_add_one, List.getElem?_eq_getElem hlt]; rfl
      have II : PrI i (Pr.begun.run (l.take i)) := by
        have := run_I PrI.begun (l.take i)
        rw [List.length_take, show 0 + min i l.length = i from by omega] at this
        exact this
      simp only [go_sem, true_and, and_true, ↓reduceIte, Nat.reduceEqDiff, Nat.reduceAdd, Bool.not_true, Bool.not_false, List.getElem?_cons_zero, List.getElem?_cons_succ, decide_true, decide_false, Bool.false_eq_true, fn6u5, fn6u4, a26, a27, ci, a25]
      refine go_iaddr (k := .i64) (n := i) (e := l[i].v) (v := acts l) (xs := l.map Ac1.v) (acts_rs l) ?_ ?_ ?_ ?_
      · simp only [go_sem, true_and, and_true, ↓reduceIte, Nat.reduceEqDiff, Nat.reduceAdd, Bool.not_true, Bool.not_false, List.getElem?_cons_zero, List.getElem?_cons_succ, decide_true, decide_false, Bool.false_eq_true, a25]
      · simp only [go_sem, true_and, and_true, ↓reduceIte, Nat.reduceEqDiff, Nat.reduceAdd, Bool.not_true, Bool.not_false, List.getElem?_cons_zero, List.getElem?_cons_succ, decide_true, decide_false, Bool.false_eq_true, a27]
      · simp [hlt]
      intro p1 e1
      have lp1 : loadV h1 true 5 p1 = some l[i].v := e1.loadA rfl
      simp only [go_sem, true_and, and_true, ↓reduceIte, Nat.reduceEqDiff, Nat.reduceAdd, Bool.not_true, Bool.not_false, List.getElem?_cons_zero, List.getElem?_cons_succ, decide_true, decide_false, Bool.false_eq_true, lp1]
      refine go_box (v := .agg zeroA) rfl rfl rfl ?_
      intro h2 f2 e2
      simp only [go_sem, true_and, and_true, ↓reduceIte, Nat.reduceEqDiff, Nat.reduceAdd, Bool.not_true, Bool.not_false, List.getElem?_cons_zero, List.getElem?_cons_succ, decide_true, decide_false, Bool.false_eq_true, a27]
      refine go_storeA (ds := [.int .i64 l[i].op, .int .i64 l[i].side, .int .i64 l[i].at', lb l[i].b, .bool l[i].stay]) e2 ?_ ?_ rfl rfl ?_ ?_
      · simp only [go_sem, true_and, and_true, ↓reduceIte, Nat.reduceEqDiff, Nat.reduceAdd, Bool.not_true, Bool.not_false, List.getElem?_cons_zero, List.getElem?_cons_succ, decide_true, decide_false, Bool.false_eq_true]
      · simp only [go_sem, true_and, and_true, ↓reduceIte, Nat.reduceEqDiff, Nat.reduceAdd, Bool.not_true, Bool.not_false, List.getElem?_cons_zero, List.getElem?_cons_succ, decide_true, decide_false, Bool.false_eq_true]
        rfl
      · simp [V.one, lb]
      intro h3 f3 n3 e3
      have f13 : Fr [] h1 h3 := f2.trans f3 (fun k hk => by simp at hk; exact .inr (by omega))
      have q3 := q1.fr f13 (by simp)
      have r3 := r1.fr f13 (by simp)
      have x3 := x1.fr f13 (by simp)
      have hx1 := x1.lt
      by_cases co : i < o.length
      · have co' : (i : Int) < o.length := by omega
        simp only [go_sem, true_and, and_true, ↓reduceIte, Nat.reduceEqDiff, Nat.reduceAdd, Bool.not_true, Bool.not_false, List.getElem?_cons_zero, List.getElem?_cons_succ, decide_true, decide_false, Bool.false_eq_true, a1, a27, lo, co', a7]
        refine go_iaddr (k := .i64) (n := i) (e := o[i].v) (v := acts o) (xs := o.map Ac1.v) (acts_rs o) ?_ ?_ ?_ ?_
        · simp only [go_sem, true_and, and_true, ↓reduceIte, Nat.reduceEqDiff, Nat.reduceAdd, Bool.not_true, Bool.not_false, List.getElem?_cons_zero, List.getElem?_cons_succ, decide_true, decide_false, Bool.false_eq_true, a1]
        · simp only [go_sem, true_and, and_true, ↓reduceIte, Nat.reduceEqDiff, Nat.reduceAdd, Bool.not_true, Bool.not_false, List.getElem?_cons_zero, List.getElem?_cons_succ, decide_true, decide_false, Bool.false_eq_true]
        · simp [co]
        intro p4 e4'
        have lp4 : loadV h3 true 5 p4 = some o[i].v := e4'.loadA rfl
        simp only [go_sem, true_and, and_true, ↓reduceIte, Nat.reduceEqDiff, Nat.reduceAdd, Bool.not_true, Bool.not_false, List.getElem?_cons_zero, List.getElem?_cons_succ, decide_true, decide_false, Bool.false_eq_true, lp4, a7]
        refine doesR nibs_gt o[i] x3 IX (by omega) _ ?_
        intro h4 SxN x4 u4
        have q4 := q3.fr u4.fr a13
        have r4 := r3.fr u4.fr a23
        have a13' : Ap Sp SxN := (a13.symm.up u4 q3.lt).symm
        have a23' : Ap Sq SxN := (a23.symm.up u4 r3.lt).symm
        have e4 := u4.fr.at e3 (fun hm => by have := x1.lt _ hm; omega)
        have l5 : loadV h4 true 5 (.ptr h1.next 0 0) = some l[i].v := ldA e4 rfl
        have f4 : Fr Sx h1 h4 := (f13.mono (by simp)).trans u4.fr (fun k hk => .inl hk)
        have m3' : ∀ k ∈ SxN, h.next ≤ k := fun k hk => by
          rcases u4.sub k hk with g | g
          · exact m3 k g
          · have := f13.next; have := f1.next; omega
        have IN := IX.does o[i]
        generalize (X.does o[i]).1 = XN at *
        simp only [go_sem, true_and, and_true, ↓reduceIte, Nat.reduceEqDiff, Nat.reduceAdd, Bool.not_true, Bool.not_false, List.getElem?_cons_zero, List.getElem?_cons_succ, decide_true, decide_false, Bool.false_eq_true, fn6u2]
        simp only [go_sem, true_and, and_true, ↓reduceIte, Nat.reduceEqDiff, Nat.reduceAdd, Bool.not_true, Bool.not_false, List.getElem?_cons_zero, List.getElem?_cons_succ, decide_true, decide_false, Bool.false_eq_true, a5, l5]
        refine doesR nibs_gt l[i] q4 II (by omega) _ ?_
        intro h5 Sp5 q5 u5
        have r5 := r4.fr u5.fr a12.symm
        have x5 := x4.fr u5.fr a13'.symm
        have a12' : Ap Sp5 Sq := a12.up u5 r4.lt
        have a13'' : Ap Sp5 SxN := a13'.up u5 x4.lt
        have l5' : loadV h5 true 5 (.ptr h1.next 0 0) = some l[i].v := ldA (u5.fr.at e4 (fun hm => by have := q1.lt _ hm; omega)) rfl
        simp only [go_sem, true_and, and_true, ↓reduceIte, Nat.reduceEqDiff, Nat.reduceAdd, Bool.not_true, Bool.not_false, List.getElem?_cons_zero, List.getElem?_cons_succ, decide_true, decide_false, Bool.false_eq_true, a6, l5']
        refine doesR nibs_gt l[i] r5 II (by omega) _ ?_
        intro h6 Sq6 r6 u6
        have q6 := q5.fr u6.fr a12'
        have x6 := x5.fr u6.fr a23'.symm
        have a12'' : Ap Sp5 Sq6 := (a12'.symm.up u6 q5.lt).symm
        have a23'' : Ap Sq6 SxN := a23'.up u6 x5.lt
        simp only [go_sem, true_and, and_true, ↓reduceIte, Nat.reduceEqDiff, Nat.reduceAdd, Bool.not_true, Bool.not_false, List.getElem?_cons_zero, List.getElem?_cons_succ, decide_true, decide_false, Bool.false_eq_true, fn6u3, a27, wi]
        refine ⟨n, by omega, by omega, a0, a1, a5, a6, a7, a25, a26, rfl, XN, Sp5, Sq6, SxN, ?_, ?_, x6, ?_, a12'', a13'', a23'', ?_, ?_, ?_, ?_⟩
        · rw [tk, run_snoc]; exact q6
        · rw [tk, run_snoc]; exact r6
        · rw [show l.length - n = i + 1 from by omega]; exact IN
        · intro k hk
          rcases u5.sub k hk with g | g
          · exact m1 k g
          · have := f4.next; have := f1.next; omega
        · intro k hk
          rcases u6.sub k hk with g | g
          · exact m2 k g
          · have := f4.next; have := f1.next; have := u5.fr.next; omega
        · exact m3'
        · exact ((f1.trans f4 (fun k hk => .inr (m3 k hk))).trans u5.fr (fun k hk => .inr (m1 k hk))).trans u6.fr (fun k hk => .inr (m2 k hk))
      · have co' : ¬ (i : Int) < o.length := by omega
        simp only [go_sem, true_and, and_true, ↓reduceIte, Nat.reduceEqDiff, Nat.reduceAdd, Bool.not_true, Bool.not_false, List.getElem?_cons_zero, List.getElem?_cons_succ, decide_true, decide_false, Bool.false_eq_true, a1, a27, lo, co']
        have q4 := q3
        have r4 := r3
        have x4 := x3
        have a13' := a13
        have a23' := a23
        have e4 := e3
        have l5 : loadV h3 true 5 (.ptr h1.next 0 0) = some l[i].v := ldA e4 rfl
        have f4 : Fr Sx h1 h3 := f13.mono (by simp)
        have m3' := m3
        have IN := IX.mono (m := i + 1) (by omega)
        simp only [go_sem, true_and, and_true, ↓reduceIte, Nat.reduceEqDiff, Nat.reduceAdd, Bool.not_true, Bool.not_false, List.getElem?_cons_zero, List.getElem?_cons_succ, decide_true, decide_false, Bool.false_eq_true, fn6u2]
        simp only [go_sem, true_and, and_true, ↓reduceIte, Nat.reduceEqDiff, Nat.reduceAdd, Bool.not_true, Bool.not_false, List.getElem?_cons_zero, List.getElem?_cons_succ, decide_true, decide_false, Bool.false_eq_true, a5, l5]
        refine doesR nibs_gt l[i] q4 II (by omega) _ ?_
        intro h5 Sp5 q5 u5
        have r5 := r4.fr u5.fr a12.symm
        have x5 := x4.fr u5.fr a13'.symm
        have a12' : Ap Sp5 Sq := a12.up u5 r4.lt
        have a13'' : Ap Sp5 Sx := a13'.up u5 x4.lt
        have l5' : loadV h5 true 5 (.ptr h1.next 0 0) = some l[i].v := ldA (u5.fr.at e4 (fun hm => by have := q1.lt _ hm; omega)) rfl
        simp only [go_sem, true_and, and_true, ↓reduceIte, Nat.reduceEqDiff, Nat.reduceAdd, Bool.not_true, Bool.not_false, List.getElem?_cons_zero, List.getElem?_cons_succ, decide_true, decide_false, Bool.false_eq_true, a6, l5']
        refine doesR nibs_gt l[i] r5 II (by omega) _ ?_
        intro h6 Sq6 r6 u6
        have q6 := q5.fr u6.fr a12'
        have x6 := x5.fr u6.fr a23'.symm
        have a12'' : Ap Sp5 Sq6 := (a12'.symm.up u6 q5.lt).symm
        have a23'' : Ap Sq6 Sx := a23'.up u6 x5.lt
        simp only [go_sem, true_and, and_true, ↓reduceIte, Nat.reduceEqDiff, Nat.reduceAdd, Bool.not_true, Bool.not_false, List.getElem?_cons_zero, List.getElem?_cons_succ, decide_true, decide_false, Bool.false_eq_true, fn6u3, a27, wi]
        refine ⟨n, by omega, by omega, a0, a1, a5, a6, a7, a25, a26, rfl, X, Sp5, Sq6, Sx, ?_, ?_, x6, ?_, a12'', a13'', a23'', ?_, ?_, ?_, ?_⟩
        · rw [tk, run_snoc]; exact q6
        · rw [tk, run_snoc]; exact r6
        · rw [show l.length - n = i + 1 from by omega]; exact IN
        · intro k hk
          rcases u5.sub k hk with g | g
          · exact m1 k g
          · have := f4.next; have := f1.next; omega
        · intro k hk
          rcases u6.sub k hk with g | g
          · exact m2 k g
          · have := f4.next; have := f1.next; have := u5.fr.next; omega
        · exact m3'
        · exact ((f1.trans f4 (fun k hk => .inr (m3 k hk))).trans u5.fr (fun k hk => .inr (m1 k hk))).trans u6.fr (fun k hk => .inr (m2 k hk))

end Go.Am

/- From a world of Go's into the abstract memory: the first world, arguments. -/
namespace Go.Am
open Go.Proofs Go.ChangeShapes Go.WideShapes Go.ChangeAt Go.RowKit

/-- All that lies at the start is nobody's to write. -/
def ren0 (W : World) : Ren := ⟨fun _ => none, fun _ => none, fun b => b < W.heap.size⟩

theorem rel0 {G : Nat → V} {W : World} (hg : ∀ g, RV (ren0 W) W (G g) (.pointer (some ⟨g, 0, none⟩))) : Rel G (ren0 W) noHeap W :=
  ⟨fun o ty sz xs e => (by cases e), fun m es cl e => (by cases e), fun o o' ty sz xs ty' sz' xs' r s s' e => (by cases e), fun o o' es cl es' cl' r e => (by cases e), fun _ _ => ⟨rfl, rfl⟩, hg, fun _ h => h⟩

theorem entry {P : Program} {G : Nat → V} {W : World} {f : FuncId} {args : List V} {vs : Array Value} {b : Bool} (hg : ∀ g, RV (ren0 W) W (G g) (.pointer (some ⟨g, 0, none⟩))) (hv : Vs (ren0 W) W args vs)
    (c : Calls0 P G f args noHeap (fun v _ => v = .bool b)) : Calls P f vs W fun e W' => e = .returned (.bool b) ∧ Below W.heap.size W W' := by
  refine (c.2 (ren0 W) W vs (rel0 hg) hv).mono (fun e W' q => ?_)
  cases e with
  | returned v =>
    obtain ⟨ρ', h', x, rfl, st, _, r⟩ := q
    cases r
    exact ⟨rfl, st.os, st.tape, st.output, st.size, fun k hk => st.keep k hk⟩
  | _ => exact q.elim

theorem cell_lt {W : World} {a : Addr} {v : Value} (h : W.cell? a = some v) : a.block < W.heap.size := by
  cases hb : W.heap[a.block]? with
  | none => simp [World.cell?, hb] at h
  | some o => exact (Array.getElem?_eq_some_iff.1 hb).1
theorem add_none (b off j : Nat) : (⟨b, off, none⟩ : Addr).add j = ⟨b, off + j, none⟩ := by
  by_cases h : j = 0
  · subst h; simp [Addr.add]
  · simp [Addr.add, h]

/-! ### arguments -/
section
variable {H : Type} {enc : TypeId × Value → H} {W : World} {sp : Nat → Bool} {held : Bool} {n : Nat} {x : DataW H × List MemPlace}

theorem b8uof {z : Int} (h : (Lit.int .u8 z).wf = true) : V.int .u8 z = b8 (UInt8.ofNat z.toNat) := by
  simp only [Lit.wf, Bool.and_eq_true, decide_eq_true_eq] at h
  obtain ⟨h1, h2⟩ := h
  have h3 : z ≤ 255 := h2
  have h4 : 0 ≤ z := h1
  show V.int .u8 z = V.int .u8 ((UInt8.ofNat z.toNat).toNat : Int)
  congr 1
  simp only [UInt8.toNat_ofNat']
  omega

theorem bytes_in {t e : TypeId} (ht : Tryd.prog.underlying t = some (.slice e)) (he : Tryd.prog.underlying e = some (.int .u8)) (hc : Tryd.prog.cellsOf e = 1) {v : Value} (h : DataW.trod enc Tryd.prog W 0 sp held n t [v] = some x) : ∃ bs, RV (ren0 W) W (lb bs) v := by
  rcases open_ints ht he hc h with ⟨hcs, _⟩ | ⟨a, len, cap, zs, hcs, _, hl, _, hz, _, hcell, hwf⟩
  · obtain rfl := (List.cons.inj hcs).1
    exact ⟨[], .lst [] 1 none 0 (fun _ => Go.undef) (Nat.le_refl _) (by simp) (fun h => absurd h (by simp)) (by simp)⟩
  · obtain rfl := (List.cons.inj hcs).1
    obtain ⟨b, off, spot⟩ := a
    have hzl : len ≤ zs.length := by rw [hz]; split <;> omega
    refine ⟨(zs.take len).map (fun z => UInt8.ofNat z.toNat), ?_⟩
    have e1 : ((zs.take len).map (fun z => UInt8.ofNat z.toNat)).map b8 = (zs.take len).map (V.int .u8) := by
      rw [List.map_map]
      refine List.map_congr_left (fun z hz => (b8uof (hwf z (List.mem_of_mem_take hz))).symm)
    have hlen : ((zs.take len).map (V.int .u8)).length = len := by simp; omega
    have e2 : lb ((zs.take len).map (fun z => UInt8.ofNat z.toNat)) = .lst ((zs.take len).map (V.int .u8)) := by unfold lb; rw [e1]
    rw [e2]
    have fm : ((zs.take len).map (V.int .u8)).flatMap V.cells = (zs.take len).map (V.int .u8) := by
      generalize zs.take len = l
      induction l with
      | nil => rfl
      | cons y l ih =>
        rw [List.map_cons, List.flatMap_cons, ih]
        rfl
    have key := RV.lst (ρ := ren0 W) (w := W) ((zs.take len).map (V.int .u8)) 1 (some ⟨b, off, spot⟩) cap (fun j => .int .u8 (zs.getD j 0)) (by rw [hlen]; exact hl) (fun y hy => by obtain ⟨z, _, rfl⟩ := List.mem_map.1 hy; exact ⟨rfl, rfl⟩) (fun h0 => by
        rw [hlen] at h0
        have hc0 := hcell 0 (by omega)
        have hs : spot = none := by simpa [Addr.add] using World.cell?_spot hc0
        subst hs
        refine ⟨b, off, rfl, cell_lt hc0, fun j hj => ?_⟩
        rw [hlen] at hj
        have := hcell j (by omega)
        rw [add_none] at this
        exact this) (fun j u hu => by
        rw [fm] at hu
        rw [List.getElem?_map] at hu
        obtain ⟨z, hz', rfl⟩ := Option.map_eq_some_iff.1 hu
        have hj : j < len ∧ zs[j]? = some z := by
          rw [List.getElem?_take] at hz'
          split at hz'
          · exact ⟨by assumption, hz'⟩
          · cases hz'
        rw [List.getD_eq_getElem?_getD, hj.2]
        exact .int _ _)
    rw [hlen] at key
    exact key

theorem int_in {t : TypeId} {k : IntKind} (ht : Tryd.prog.underlying t = some (.int k)) {v : Value} (h : DataW.trod enc Tryd.prog W 0 sp held n t [v] = some x) : ∃ z, v = .int k z := by
  obtain ⟨z, hz, _⟩ := DataW.trod_int ht h
  exact ⟨z, (List.cons.inj hz).1⟩
theorem bool_in {t : TypeId} (ht : Tryd.prog.underlying t = some .bool) {v : Value} (h : DataW.trod enc Tryd.prog W 0 sp held n t [v] = some x) : ∃ z, v = .bool z := by
  obtain ⟨z, hz, _⟩ := DataW.trod_bool ht h
  exact ⟨z, (List.cons.inj hz).1⟩

set_option maxRecDepth 100000
theorem five {α : Type} {l : List α} (h : l.length = 5) : ∃ a b c d e, l = [a, b, c, d, e] := by
  match l, h with
  | [a, b, c, d, e], _ => exact ⟨a, b, c, d, e, rfl⟩

theorem act_in {cs : List Value} (h : DataW.trod enc Tryd.prog W 0 sp held n 29 cs = some x) : ∃ (A : Ac1) (bv : Value), cs = [.int .i64 A.op, .int .i64 A.side, .int .i64 A.at', bv, .bool A.stay] ∧ RV (ren0 W) W (lb A.b) bv := by
  obtain ⟨xs, m, _, _, hl, hxl, hf⟩ := DataW.trod_struct Tryd.underlying29 h
  have c5 : Tryd.prog.cellsOf 29 = 5 := by kernel_rfl
  have hl5 : cs.length = 5 := hl.trans c5
  have hx5 : xs.length = 5 := hxl
  obtain ⟨c0, c1, c2, c3, c4, rfl⟩ := five hl5
  obtain ⟨x0, x1, x2, x3, x4, rfl⟩ := five hx5
  have k3 : Tryd.prog.cellsOf 3 = 1 := by kernel_rfl
  have k4 : Tryd.prog.cellsOf 4 = 1 := by kernel_rfl
  have k27 : Tryd.prog.cellsOf 27 = 1 := by kernel_rfl
  have g0 := hf 0 _ rfl
  have g1 := hf 1 _ rfl
  have g2 := hf 2 _ rfl
  have g3 := hf 3 _ rfl
  have g4 := hf 4 _ rfl
  simp only [k3, k4, k27, List.drop_zero, List.drop_succ_cons, List.take_succ_cons, List.take_zero, List.getElem?_cons_zero, List.getElem?_cons_succ] at g0 g1 g2 g3 g4
  obtain ⟨z0, rfl⟩ := int_in Tryd.underlying3 g0
  obtain ⟨z1, rfl⟩ := int_in Tryd.underlying3 g1
  obtain ⟨z2, rfl⟩ := int_in Tryd.underlying3 g2
  obtain ⟨bs, hb⟩ := bytes_in Tryd.underlying27 Tryd.underlying5 (by kernel_rfl) g3
  obtain ⟨z4, rfl⟩ := bool_in Tryd.underlying4 g4
  exact ⟨⟨z0, z1, z2, bs, z4⟩, c3, rfl, hb⟩

theorem acts_in {v : Value} (h : DataW.trod enc Tryd.prog W 0 sp held n 22 [v] = some x) : ∃ l : List Ac1, RV (ren0 W) W (.lst (l.map Ac1.v)) v := by
  rcases Go.Deep.open_slice Tryd.underlying22 h with ⟨hcs, _⟩ | ⟨a, len, cap, m, k, D, Pl, hcs, _, hl, _, hm, _, hel⟩
  · obtain rfl := (List.cons.inj hcs).1
    exact ⟨[], .lst [] 5 none 0 (fun _ => Go.undef) (Nat.le_refl _) (by simp) (fun h => absurd h (by simp)) (by simp)⟩
  · obtain rfl := (List.cons.inj hcs).1
    obtain ⟨b, off, spot⟩ := a
    have hml : len ≤ m := by rw [hm]; split <;> omega
    have c5 : Tryd.prog.cellsOf 29 = 5 := by kernel_rfl
    rw [c5] at hel
    have : Inhabited (Ac1 × Value) := ⟨(⟨0, 0, 0, [], false⟩, Go.undef)⟩
    obtain ⟨F, hF⟩ := Go.Deep.choose_lt (α := Ac1 × Value) (n := len) (p := fun i y => (∀ j, j < 5 → W.cell? ((⟨b, off, spot⟩ : Addr).add (i * 5) |>.add j) = [Value.int .i64 y.1.op, .int .i64 y.1.side, .int .i64 y.1.at', y.2, .bool y.1.stay][j]?) ∧ RV (ren0 W) W (lb y.1.b) y.2) (fun i hi => by
      obtain ⟨cs', h1, h2⟩ := hel i (by omega)
      obtain ⟨A, bv, rfl, hr⟩ := act_in h2
      obtain ⟨_, _, h3⟩ := World.cells?_some h1
      exact ⟨(A, bv), h3, hr⟩)
    refine ⟨(List.range len).map (fun i => (F i).1), ?_⟩
    have hlen : (((List.range len).map (fun i => (F i).1)).map Ac1.v).length = len := by simp
    have hs5 : ∀ y ∈ ((List.range len).map (fun i => (F i).1)).map Ac1.v, y.cells.length = 5 := fun y hy => by
      obtain ⟨A, _, rfl⟩ := List.mem_map.1 hy
      rfl
    have key := RV.lst (ρ := ren0 W) (w := W) (((List.range len).map (fun i => (F i).1)).map Ac1.v) 5 (some ⟨b, off, spot⟩) cap
      (fun j => [Value.int .i64 (F (j / 5)).1.op, .int .i64 (F (j / 5)).1.side, .int .i64 (F (j / 5)).1.at', (F (j / 5)).2, .bool (F (j / 5)).1.stay].getD (j % 5) Go.undef) (by rw [hlen]; exact hl) (fun y hy => by
        obtain ⟨A, _, rfl⟩ := List.mem_map.1 hy
        exact ⟨by simp [Ac1.v, V.sane, V.one, lb], rfl⟩) (fun h0 => by
        rw [hlen] at h0
        have hc0 := (hF 0 h0).1 0 (by omega)
        have hs : spot = none := by simpa [Addr.add] using World.cell?_spot hc0
        subst hs
        rw [add_none, add_none] at hc0
        refine ⟨b, off, rfl, cell_lt hc0, fun j hj => ?_⟩
        rw [hlen] at hj
        have := (hF (j / 5) (by omega)).1 (j % 5) (by omega)
        rw [add_none, add_none, show off + j / 5 * 5 + j % 5 = off + j from by omega] at this
        rw [this, List.getD_eq_getElem?_getD]
        have h5 : j % 5 < 5 := by omega
        rw [List.getElem?_eq_getElem (by simpa using h5)]
        rfl) (fun j u hu => by
        have hjl : j < len * 5 := by
          have := (List.getElem?_eq_some_iff.1 hu).1
          rw [flat_length _ 5 hs5, hlen] at this
          exact this
        have hi : j / 5 < len := by omega
        have hj5 : j % 5 < 5 := by omega
        have hx : (((List.range len).map (fun i => (F i).1)).map Ac1.v)[j / 5]? = some (F (j / 5)).1.v := by simp [hi]
        have hu' := flat_at _ 5 hs5 (j / 5) _ hx (j % 5) hj5
        rw [show j / 5 * 5 + j % 5 = j from by omega, hu] at hu'
        have hr := (hF (j / 5) hi).2
        generalize F (j / 5) = y at *
        obtain ⟨A, bv⟩ := y
        generalize j % 5 = q at *
        have : q = 0 ∨ q = 1 ∨ q = 2 ∨ q = 3 ∨ q = 4 := by omega
        rcases this with rfl | rfl | rfl | rfl | rfl
        · obtain rfl := Option.some.inj hu'; exact .int _ _
        · obtain rfl := Option.some.inj hu'; exact .int _ _
        · obtain rfl := Option.some.inj hu'; exact .int _ _
        · obtain rfl := Option.some.inj hu'; exact hr
        · obtain rfl := Option.some.inj hu'; exact .bool _)
    rw [hlen] at key
    exact key
end

end Go.Am

/- The globals, as the Tunnel rows lay them; what a law's call does. -/
namespace Go.Am
open Go.Proofs Go.ChangeShapes Go.WideShapes Go.ChangeAt Go.RowKit
set_option maxRecDepth 100000

def nibT : List Int := [0, 498536548, 997073096, 651767980, 1994146192, 1802195444, 1303535960, 1342533948, 3988292384, 4027552580, 3604390888, 3412177804, 2607071920, 2262029012, 2685067896, 3183342108]

theorem nib_global : Tryd.prog.globalNamed "flume/sums.nibbles" = some 2 := by kernel_rfl
theorem nib_type : ∃ t, (Tryd.prog.globals[2]?).map (·.type) = some t ∧ Tryd.prog.underlying t = some (.array 16 144) ∧ Tryd.prog.cellsOf t = 16 := ⟨198, by kernel_rfl, by kernel_rfl, by kernel_rfl⟩

theorem glo_of_laid {W : World} (h : laidMet Tryd.prog [("flume/sums.nibbles", YtonbafpfcmlnlaaDoor.Rows.laid_flume_sums_nibbles)] W) : ∀ g, RV (ren0 W) W (Gt g) (.pointer (some ⟨g, 0, none⟩)) := by
  obtain ⟨ps, ⟨g, t, cs, fuel, p, q, hg, ht, hvar, hd, _, _⟩, _⟩ := h
  obtain rfl := Option.some.inj (nib_global.symm.trans hg)
  obtain ⟨t', ht', hu, hc⟩ := nib_type
  obtain rfl := Option.some.inj (ht'.symm.trans ht)
  obtain ⟨xs, m, _, hx, hl, hxl, hel⟩ := DataW.trod_array hu hd
  rw [hc] at hl
  have ce : Tryd.prog.cellsOf 144 = 1 := by kernel_rfl
  rw [ce] at hel
  obtain ⟨hx1, _⟩ := Prod.mk.inj hx
  have hmap : xs.map (·.1) = nibT.map fun z => DataW.lit (Lit.int .u32 z) := (DataW.agg.inj hx1).symm
  have cell : ∀ i, i < 16 → cs[i]? = some (.int .u32 (nibT.getD i 0)) := by
    intro i hi
    have h1 := hel i hi
    have hil : i < cs.toList.length := by omega
    have e1 : (cs.toList.drop (i * 1)).take 1 = [cs.toList[i]] := by
      rw [Nat.mul_one, List.drop_eq_getElem_cons hil]
      rfl
    rw [e1, List.getElem?_eq_getElem (by omega)] at h1
    obtain ⟨z, hz, hy, _⟩ := DataW.trod_int Tryd.underlying144 h1
    have hn : (nibT.map fun z => DataW.lit (H := Unit) (Lit.int .u32 z))[i]? = some xs[i].1 := by
      rw [← hmap, List.getElem?_map, List.getElem?_eq_getElem (by omega)]
      rfl
    rw [hy, List.getElem?_map] at hn
    obtain ⟨z', hz', he⟩ := Option.map_eq_some_iff.1 hn
    have : z' = z := by
      have := DataW.lit.inj he
      injection this
    subst this
    rw [List.getD_eq_getElem?_getD, hz']
    have := (List.cons.inj hz).1
    rw [← Array.getElem?_toList, List.getElem?_eq_getElem hil, this]
    rfl
  intro g
  by_cases e : g = 2
  · subst e
    refine .cptr (nibT.map (V.int .u32)) 2 0 (fun j => .int .u32 (nibT.getD j 0)) (fun y hy => ?_) ?_ (fun j hj => ?_) (fun j u hu => ?_)
    · obtain ⟨z, _, rfl⟩ := List.mem_map.1 hy
      rfl
    · have h0 := World.var?_cell hg hvar 0
      rw [cell 0 (by omega)] at h0
      exact cell_lt h0
    · have hj' : j < 16 := by simpa [nibT] using hj
      rw [Nat.zero_add, World.var?_cell hg hvar j]
      exact cell j hj'
    · rw [List.getElem?_map] at hu
      obtain ⟨z, hz, rfl⟩ := Option.map_eq_some_iff.1 hu
      rw [List.getD_eq_getElem?_getD, hz]
      exact .int _ _
  · have : Gt g = .undef := by
      unfold Gt
      split
      · exact absurd rfl e
      · rfl
    rw [this]
    exact .undef _

end Go.Am
