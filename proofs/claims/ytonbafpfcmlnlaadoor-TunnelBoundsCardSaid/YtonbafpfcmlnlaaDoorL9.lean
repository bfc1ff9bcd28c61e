/- Parts of the proof, one after another; what each part shows stands at its head. No conditions. -/
import Derived.Test.YtonbafpfcmlnlaaDoorL8
set_option linter.all false

/- The pair in memory. -/
namespace Go.Am
open Go.Proofs
variable {G : Nat → V} {h h' h'' : Heap} {fz : List Nat} {a : Tm} {K : Tm → Heap → Prop}

def set1 {α : Type} (f : Nat → α) (i : Nat) (x : α) : Nat → α := fun j => if j = i then x else f j
theorem set1usame {α : Type} (f : Nat → α) (i : Nat) (x : α) : set1 f i x i = x := by simp [set1]
theorem set1une {α : Type} (f : Nat → α) {i j : Nat} (x : α) (e : j ≠ i) : set1 f i x j = f j := by simp [set1, e]

/-- Two tunnels, what is on the way to each, what was sent and told. -/
structure Pr where
  t : Nat → Tn
  bag : Nat → List (List UInt8)
  sent : Ac
  told : Ac

def prC (ta : Nat → Nat) (bv : Nat → V) (ms mt : Nat) : List V := [.ptr (ta 0) 0 0, .ptr (ta 1) 0 0, bv 0, bv 1, .map ms, .map mt]

theorem lt2 {i : Nat} (hi : i < 2) : i = 0 ∨ i = 1 := by omega
theorem prC_tun {ta : Nat → Nat} {bv : Nat → V} {ms mt i : Nat} (hi : i < 2) : (prC ta bv ms mt)[i]? = some (.ptr (ta i) 0 0) := by
  rcases lt2 hi with rfl | rfl <;> rfl
theorem prC_bag {ta : Nat → Nat} {bv : Nat → V} {ms mt i : Nat} (hi : i < 2) : (prC ta bv ms mt)[2 + i]? = some (bv i) := by
  rcases lt2 hi with rfl | rfl <;> rfl
theorem prC_setT {ta : Nat → Nat} {bv : Nat → V} {ms mt i x : Nat} (hi : i < 2) : (prC ta bv ms mt).set i (.ptr x 0 0) = prC (set1 ta i x) bv ms mt := by
  rcases lt2 hi with rfl | rfl <;> rfl
theorem prC_setB {ta : Nat → Nat} {bv : Nat → V} {ms mt i : Nat} {v : V} (hi : i < 2) : (prC ta bv ms mt).set (2 + i) v = prC ta (set1 bv i v) ms mt := by
  rcases lt2 hi with rfl | rfl <;> rfl

def Dis (Sp : Nat → List Nat) : Prop := ∀ i j, i < 7 → j < 7 → i ≠ j → ∀ k ∈ Sp i, k ∉ Sp j

structure PairP (h : Heap) (p : Nat) (P : Pr) (ta : Nat → Nat) (bv : Nat → V) (ms mt : Nat) (Sp : Nat → List Nat) : Prop where
  obj : h.obj p = some (.arr 37 6 [.agg (prC ta bv ms mt)])
  own : Sp 0 = [p]
  tun : ∀ i, i < 2 → TunR h (ta i) (P.t i) (Sp (1 + i))
  bag : ∀ i, i < 2 → Buf h (Sp (3 + i)) ((P.bag i).map lb) (bv i)
  sent : AccR h ms P.sent (Sp 5)
  told : AccR h mt P.told (Sp 6)
  dis : Dis Sp

def PairR (h : Heap) (p : Nat) (P : Pr) (S : List Nat) : Prop := ∃ ta bv ms mt Sp, PairP h p P ta bv ms mt Sp ∧ ∀ k, k ∈ S ↔ ∃ i, i < 7 ∧ k ∈ Sp i

variable {p : Nat} {P : Pr} {ta : Nat → Nat} {bv : Nat → V} {ms mt : Nat} {Sp : Nat → List Nat}

theorem PairP.lt (q : PairP h p P ta bv ms mt Sp) : ∀ i, i < 7 → ∀ k ∈ Sp i, k < h.next := by
  intro i hi k hk
  have : i = 0 ∨ i = 1 ∨ i = 2 ∨ i = 3 ∨ i = 4 ∨ i = 5 ∨ i = 6 := by omega
  rcases this with rfl | rfl | rfl | rfl | rfl | rfl | rfl
  · rw [q.own] at hk
    simp at hk
    subst hk
    exact Heap.lt_next q.obj
  · exact (q.tun 0 (by omega)).lt k hk
  · exact (q.tun 1 (by omega)).lt k hk
  · exact (q.bag 0 (by omega)).lt k hk
  · exact (q.bag 1 (by omega)).lt k hk
  · exact q.sent.lt k hk
  · exact q.told.lt k hk

theorem PairP.fr {Z : List Nat} (q : PairP h p P ta bv ms mt Sp) (f : Fr Z h h') (hZ : ∀ i, i < 7 → ∀ k ∈ Sp i, k ∉ Z) : PairP h' p P ta bv ms mt Sp :=
  ⟨f.at q.obj (hZ 0 (by omega) p (by rw [q.own]; simp)), q.own, fun i hi => (q.tun i hi).fr f (hZ (1 + i) (by omega)), fun i hi => (q.bag i hi).fr f (hZ (3 + i) (by omega)), q.sent.fr f (hZ 5 (by omega)), q.told.fr f (hZ 6 (by omega)), q.dis⟩
theorem PairP.new {Z : List Nat} (q : PairP h p P ta bv ms mt Sp) (f : Fr Z h h') (hZ : ∀ k ∈ Z, h.next ≤ k) : PairP h' p P ta bv ms mt Sp :=
  q.fr f (fun i hi k hk hm => by have := q.lt i hi k hk; have := hZ k hm; omega)

theorem dis_upd {c n : Nat} {S' : List Nat} (d : Dis Sp) (hc : c < 7) (lt : ∀ i, i < 7 → ∀ k ∈ Sp i, k < n) (hs : ∀ k ∈ S', k ∈ Sp c ∨ n ≤ k) : Dis (set1 Sp c S') := by
  intro i j hi hj hij k hk hm
  by_cases ei : i = c
  · subst ei
    rw [set1usame] at hk
    rw [set1une _ _ (Ne.symm hij)] at hm
    rcases hs k hk with q | q
    · exact d i j hi hj hij k q hm
    · have := lt j hj k hm; omega
  · rw [set1une _ _ ei] at hk
    by_cases ej : j = c
    · subst ej
      rw [set1usame] at hm
      rcases hs k hm with q | q
      · exact d i j hi hj hij k hk q
      · have := lt i hi k hk; omega
    · rw [set1une _ _ ej] at hm
      exact d i j hi hj hij k hk hm

/-- What is not of the part c, nor the pair's own cell, stays. -/
theorem PairP.apart (q : PairP h p P ta bv ms mt Sp) {c : Nat} (hc : c < 7) {Z : List Nat} (f : Fr Z h h') (hZ : ∀ k ∈ Z, k ∈ Sp 0 ∨ k ∈ Sp c ∨ h.next ≤ k) :
    ∀ j, j < 7 → j ≠ 0 → j ≠ c → ∀ k ∈ Sp j, k ∉ Z := by
  intro j hj h0 hjc k hk hm
  rcases hZ k hm with g | g | g
  · exact q.dis j 0 hj (by omega) h0 k hk g
  · exact q.dis j c hj hc hjc k hk g
  · have := q.lt j hj k hk; omega

/-- A tunnel was turned. -/
theorem PairP.setTun (q : PairP h p P ta bv ms mt Sp) {i : Nat} (hi : i < 2) {T : Tn} {S' Z : List Nat} {x : Nat} (f : Fr Z h h') (hZ : ∀ k ∈ Z, k ∈ Sp 0 ∨ k ∈ Sp (1 + i) ∨ h.next ≤ k) (ho : h'.obj p = some (.arr 37 6 [.agg (prC (set1 ta i x) bv ms mt)])) (ht : TunR h' x T S') (hs : ∀ k ∈ S', k ∈ Sp (1 + i) ∨ h.next ≤ k) :
    PairP h' p { P with t := set1 P.t i T } (set1 ta i x) bv ms mt (set1 Sp (1 + i) S') := by
  have ap := q.apart (c := 1 + i) (by omega) f hZ
  refine ⟨ho, by rw [set1une _ _ (by omega)]; exact q.own, fun j hj => ?_, fun j hj => ?_, ?_, ?_, dis_upd q.dis (by omega) q.lt hs⟩
  · by_cases e : j = i
    · subst e
      rw [set1usame, set1usame]
      show TunR h' x (set1 P.t j T j) S'
      rw [set1usame]
      exact ht
    · rw [set1une _ _ e, set1une _ _ (by omega)]
      show TunR h' (ta j) (set1 P.t i T j) (Sp (1 + j))
      rw [set1une _ _ e]
      exact (q.tun j hj).fr f (ap (1 + j) (by omega) (by omega) (by omega))
  · rw [set1une _ _ (by omega)]
    exact (q.bag j hj).fr f (ap (3 + j) (by omega) (by omega) (by omega))
  · rw [set1une _ _ (by omega)]
    exact q.sent.fr f (ap 5 (by omega) (by omega) (by omega))
  · rw [set1une _ _ (by omega)]
    exact q.told.fr f (ap 6 (by omega) (by omega) (by omega))

/-- A tunnel was turned where it lies. -/
theorem PairP.setTun' (q : PairP h p P ta bv ms mt Sp) {i : Nat} (hi : i < 2) {T : Tn} {S' : List Nat} (u : Up h h' (Sp (1 + i)) S') (ht : TunR h' (ta i) T S') :
    PairP h' p { P with t := set1 P.t i T } ta bv ms mt (set1 Sp (1 + i) S') := by
  have e : set1 ta i (ta i) = ta := by
    funext j
    by_cases hj : j = i <;> simp [set1, hj]
  have hp : p ∉ Sp (1 + i) := q.dis 0 (1 + i) (by omega) (by omega) (by omega) p (by rw [q.own]; simp)
  have := q.setTun hi (T := T) (x := ta i) u.fr (fun k hk => .inr (.inl hk)) (by rw [e]; exact u.fr.at q.obj hp) ht u.sub
  rw [e] at this
  exact this

/-- A bag was turned. -/
theorem PairP.setBag (q : PairP h p P ta bv ms mt Sp) {i : Nat} (hi : i < 2) {l : List (List UInt8)} {S' Z : List Nat} {v : V} (f : Fr Z h h') (hZ : ∀ k ∈ Z, k ∈ Sp 0 ∨ k ∈ Sp (3 + i) ∨ h.next ≤ k) (ho : h'.obj p = some (.arr 37 6 [.agg (prC ta (set1 bv i v) ms mt)])) (hb : Buf h' S' (l.map lb) v) (hs : ∀ k ∈ S', k ∈ Sp (3 + i) ∨ h.next ≤ k) :
    PairP h' p { P with bag := set1 P.bag i l } ta (set1 bv i v) ms mt (set1 Sp (3 + i) S') := by
  have ap := q.apart (c := 3 + i) (by omega) f hZ
  refine ⟨ho, by rw [set1une _ _ (by omega)]; exact q.own, fun j hj => ?_, fun j hj => ?_, ?_, ?_, dis_upd q.dis (by omega) q.lt hs⟩
  · rw [set1une _ _ (by omega)]
    exact (q.tun j hj).fr f (ap (1 + j) (by omega) (by omega) (by omega))
  · by_cases e : j = i
    · subst e
      rw [set1usame, set1usame]
      show Buf h' S' ((set1 P.bag j l j).map lb) v
      rw [set1usame]
      exact hb
    · rw [set1une _ _ e, set1une _ _ (by omega)]
      show Buf h' (Sp (3 + j)) ((set1 P.bag i l j).map lb) (bv j)
      rw [set1une _ _ e]
      exact (q.bag j hj).fr f (ap (3 + j) (by omega) (by omega) (by omega))
  · rw [set1une _ _ (by omega)]
    exact q.sent.fr f (ap 5 (by omega) (by omega) (by omega))
  · rw [set1une _ _ (by omega)]
    exact q.told.fr f (ap 6 (by omega) (by omega) (by omega))

/-- What was sent was turned. -/
theorem PairP.setSent (q : PairP h p P ta bv ms mt Sp) {es : Ac} {S' : List Nat} (f : Fr (Sp 5) h h') (w : AccR h' ms es S') (hs : ∀ k ∈ S', k ∈ Sp 5 ∨ h.next ≤ k) : PairP h' p { P with sent := es } ta bv ms mt (set1 Sp 5 S') := by
  have ap := q.apart (c := 5) (by omega) f (fun k hk => .inr (.inl hk))
  have hp : p ∉ Sp 5 := q.dis 0 5 (by omega) (by omega) (by omega) p (by rw [q.own]; simp)
  refine ⟨f.at q.obj hp, by rw [set1une _ _ (by omega)]; exact q.own, fun j hj => ?_, fun j hj => ?_, ?_, ?_, dis_upd q.dis (by omega) q.lt hs⟩
  · rw [set1une _ _ (by omega)]
    exact (q.tun j hj).fr f (ap (1 + j) (by omega) (by omega) (by omega))
  · rw [set1une _ _ (by omega)]
    exact (q.bag j hj).fr f (ap (3 + j) (by omega) (by omega) (by omega))
  · rw [set1usame]
    exact w
  · rw [set1une _ _ (by omega)]
    exact q.told.fr f (ap 6 (by omega) (by omega) (by omega))
/-- What was told was turned. -/
theorem PairP.setTold (q : PairP h p P ta bv ms mt Sp) {es : Ac} {S' : List Nat} (f : Fr (Sp 6) h h') (w : AccR h' mt es S') (hs : ∀ k ∈ S', k ∈ Sp 6 ∨ h.next ≤ k) : PairP h' p { P with told := es } ta bv ms mt (set1 Sp 6 S') := by
  have ap := q.apart (c := 6) (by omega) f (fun k hk => .inr (.inl hk))
  have hp : p ∉ Sp 6 := q.dis 0 6 (by omega) (by omega) (by omega) p (by rw [q.own]; simp)
  refine ⟨f.at q.obj hp, by rw [set1une _ _ (by omega)]; exact q.own, fun j hj => ?_, fun j hj => ?_, ?_, ?_, dis_upd q.dis (by omega) q.lt hs⟩
  · rw [set1une _ _ (by omega)]
    exact (q.tun j hj).fr f (ap (1 + j) (by omega) (by omega) (by omega))
  · rw [set1une _ _ (by omega)]
    exact (q.bag j hj).fr f (ap (3 + j) (by omega) (by omega) (by omega))
  · rw [set1une _ _ (by omega)]
    exact q.sent.fr f (ap 5 (by omega) (by omega) (by omega))
  · rw [set1usame]
    exact w

/-! ### a pair as a whole -/

theorem PairR.of (q : PairP h p P ta bv ms mt Sp) : PairR h p P (Sp 0 ++ Sp 1 ++ Sp 2 ++ Sp 3 ++ Sp 4 ++ Sp 5 ++ Sp 6) := by
  refine ⟨ta, bv, ms, mt, Sp, q, fun k => ?_⟩
  simp only [List.mem_append]
  constructor
  · rintro ((((((g | g) | g) | g) | g) | g) | g)
    · exact ⟨0, by omega, g⟩
    · exact ⟨1, by omega, g⟩
    · exact ⟨2, by omega, g⟩
    · exact ⟨3, by omega, g⟩
    · exact ⟨4, by omega, g⟩
    · exact ⟨5, by omega, g⟩
    · exact ⟨6, by omega, g⟩
  · rintro ⟨i, hi, g⟩
    have : i = 0 ∨ i = 1 ∨ i = 2 ∨ i = 3 ∨ i = 4 ∨ i = 5 ∨ i = 6 := by omega
    rcases this with rfl | rfl | rfl | rfl | rfl | rfl | rfl <;> simp [g]
theorem PairR.lt {S : List Nat} (q : PairR h p P S) : ∀ k ∈ S, k < h.next := by
  obtain ⟨ta, bv, ms, mt, Sp, q, hS⟩ := q
  intro k hk
  obtain ⟨i, hi, g⟩ := (hS k).1 hk
  exact q.lt i hi k g
theorem PairR.fr {S Z : List Nat} (q : PairR h p P S) (f : Fr Z h h') (hZ : ∀ k ∈ S, k ∉ Z) : PairR h' p P S := by
  obtain ⟨ta, bv, ms, mt, Sp, q, hS⟩ := q
  exact ⟨ta, bv, ms, mt, Sp, q.fr f (fun i hi k hk => hZ k ((hS k).2 ⟨i, hi, hk⟩)), hS⟩

/-- All that is the pair's. -/
def allS (Sp : Nat → List Nat) : List Nat := Sp 0 ++ Sp 1 ++ Sp 2 ++ Sp 3 ++ Sp 4 ++ Sp 5 ++ Sp 6
theorem mem_allS {Sp : Nat → List Nat} {k : Nat} : k ∈ allS Sp ↔ ∃ i, i < 7 ∧ k ∈ Sp i := by
  simp only [allS, List.mem_append]
  constructor
  · rintro ((((((g | g) | g) | g) | g) | g) | g)
    · exact ⟨0, by omega, g⟩
    · exact ⟨1, by omega, g⟩
    · exact ⟨2, by omega, g⟩
    · exact ⟨3, by omega, g⟩
    · exact ⟨4, by omega, g⟩
    · exact ⟨5, by omega, g⟩
    · exact ⟨6, by omega, g⟩
  · rintro ⟨i, hi, g⟩
    have : i = 0 ∨ i = 1 ∨ i = 2 ∨ i = 3 ∨ i = 4 ∨ i = 5 ∨ i = 6 := by omega
    rcases this with rfl | rfl | rfl | rfl | rfl | rfl | rfl <;> simp [g]
theorem up_part {c : Nat} {S' Z : List Nat} (hc : c < 7) (f : Fr Z h h') (hZ : ∀ k ∈ Z, k ∈ Sp 0 ∨ k ∈ Sp c ∨ h.next ≤ k) (hs : ∀ k ∈ S', k ∈ Sp c ∨ h.next ≤ k) : Up h h' (allS Sp) (allS (set1 Sp c S')) := by
  refine ⟨f.drop (fun k hk => ?_), fun k hk => ?_⟩
  · rcases hZ k hk with g | g | g
    · exact .inl (mem_allS.2 ⟨0, by omega, g⟩)
    · exact .inl (mem_allS.2 ⟨c, hc, g⟩)
    · exact .inr g
  · obtain ⟨i, hi, g⟩ := mem_allS.1 hk
    by_cases e : i = c
    · subst e
      rw [set1usame] at g
      rcases hs k g with q | q
      · exact .inl (mem_allS.2 ⟨i, hi, q⟩)
      · exact .inr q
    · rw [set1une _ _ e] at g
      exact .inl (mem_allS.2 ⟨i, hi, g⟩)

end Go.Am

/- The pair: begun, out. -/
namespace Go.Am
open Go.Proofs
variable {G : Nat → V} {h h' h'' : Heap} {fz : List Nat} {a : Tm} {K : Tm → Heap → Prop}

@[go_sem] theorem s_iaddrA {len sz : Nat} {x i : Opd} : stepI G a h (.iaddrA len sz x i) = (match idx (i.ev G a), x.ev G a with
    | some n, .ptr o j s => if n < len then some (.ptr o j (s + n * sz), h) else none
    | some n, .cptr cs => if n < len then some (.cptr (cs.drop (n * sz)), h) else none
    | _, _ => none) := (rfl)

def Pr.begun : Pr := ⟨fun i => if i = 0 then Tn.fresh 1000 else Tn.fresh 5000, fun _ => [], [], []⟩

theorem begun_spec (R : V → Heap → Prop) (hR : ∀ p h' ta bv ms mt Sp, PairP h' p Pr.begun ta bv ms mt Sp → Fr [] h h' → (∀ k ∈ allS Sp, h.next ≤ k) → R (.ptr p 0 0) h') : Calls0 Tryd.prog G 14 [] h R := by
  refine fn_walk mixed fn14uis [] rfl ?_
  simp only [go_sem, true_and, and_true, ↓reduceIte, Nat.reduceEqDiff, Nat.reduceAdd, Bool.not_true, Bool.not_false, List.getElem?_cons_zero, List.getElem?_cons_succ, decide_true, decide_false, Bool.false_eq_true, fn14]
  refine new_spec 1000 _ (fun hh => absurd (by omega) hh) ?_
  intro _ t0 h1 S0 q0 f1 s0
  simp only [go_sem, true_and, and_true, ↓reduceIte, Nat.reduceEqDiff, Nat.reduceAdd, Bool.not_true, Bool.not_false, List.getElem?_cons_zero, List.getElem?_cons_succ, decide_true, decide_false, Bool.false_eq_true]
  refine new_spec 5000 _ (fun hh => absurd (by omega) hh) ?_
  intro _ t1 h2 S1 q1 f2 s1
  simp only [go_sem, true_and, and_true, ↓reduceIte, Nat.reduceEqDiff, Nat.reduceAdd, Bool.not_true, Bool.not_false, List.getElem?_cons_zero, List.getElem?_cons_succ, decide_true, decide_false, Bool.false_eq_true]
  refine go_build (cs := [.ptr t0 0 0, .ptr t1 0 0]) rfl ?_
  simp only [go_sem, true_and, and_true, ↓reduceIte, Nat.reduceEqDiff, Nat.reduceAdd, Bool.not_true, Bool.not_false, List.getElem?_cons_zero, List.getElem?_cons_succ, decide_true, decide_false, Bool.false_eq_true]
  have f3 : Fr [] h2 (h2.alloc (.map [] 0)) := Fr.alloc _ _
  have m3 : (h2.alloc (.map [] 0)).obj h2.next = some (.map [] 0) := alloc_new
  have n3 : (h2.alloc (.map [] 0)).next = h2.next + 1 := rfl
  have f4 : Fr [] (h2.alloc (.map [] 0)) ((h2.alloc (.map [] 0)).alloc (.map [] 0)) := Fr.alloc _ _
  have m4 : ((h2.alloc (.map [] 0)).alloc (.map [] 0)).obj (h2.next + 1) = some (.map [] 0) := alloc_new
  have n4 : ((h2.alloc (.map [] 0)).alloc (.map [] 0)).next = h2.next + 1 + 1 := rfl
  generalize h2.alloc (.map [] 0) = h3 at *
  generalize h3.alloc (.map [] 0) = h4 at *
  refine go_build (cs := [.ptr t0 0 0, .ptr t1 0 0, .nil, .nil, .map h2.next, .map (h2.next + 1)]) rfl ?_
  simp only [go_sem, true_and, and_true, ↓reduceIte, Nat.reduceEqDiff, Nat.reduceAdd, Bool.not_true, Bool.not_false, List.getElem?_cons_zero, List.getElem?_cons_succ, decide_true, decide_false, Bool.false_eq_true]
  refine go_box (v := .agg [.ptr t0 0 0, .ptr t1 0 0, .nil, .nil, .map h2.next, .map (h2.next + 1)]) rfl rfl rfl ?_
  intro h5 f5 e5
  simp only [go_sem, true_and, and_true, ↓reduceIte, Nat.reduceEqDiff, Nat.reduceAdd, Bool.not_true, Bool.not_false, List.getElem?_cons_zero, List.getElem?_cons_succ, decide_true, decide_false, Bool.false_eq_true]
  have f24 : Fr [] h2 h4 := f3.trans f4 (by simp)
  have f25 : Fr [] h2 h5 := f24.trans f5 (by simp)
  have f02 : Fr [] h h2 := f1.trans f2 (by simp)
  have q0' := (q0.new f2 (by simp)).new f25 (by simp)
  have q1' := q1.new f25 (by simp)
  have a3 : AccR h5 h2.next [] [h2.next] := ⟨[], 0, [], f5.at (f4.at m3 (by simp)) (by simp), .nil, rfl, by simp, by simp, by simp⟩
  have a4 : AccR h5 (h2.next + 1) [] [h2.next + 1] := ⟨[], 0, [], f5.at m4 (by simp), .nil, rfl, by simp, by simp, by simp⟩
  have lt0 := q0.lt
  have lt1 := q1.lt
  have g2 := f2.next
  have g1 := f1.next
  let Sp : Nat → List Nat := fun i => match i with
    | 0 => [h4.next] | 1 => S0 | 2 => S1 | 5 => [h2.next] | 6 => [h2.next + 1] | _ => []
  refine hR h4.next h5 (fun i => if i = 0 then t0 else t1) (fun _ => .nil) h2.next (h2.next + 1) Sp ⟨e5, rfl, fun i hi => ?_, fun i hi => ?_, a3, a4, ?_⟩ (f02.trans f25 (by simp)) ?_
  · rcases lt2 hi with rfl | rfl
    · exact q0'
    · exact q1'
  · rcases lt2 hi with rfl | rfl <;> exact Buf.nil
  · -- each part has its own place
    have rk : ∀ i, i < 7 → ∀ k ∈ Sp i, (i = 0 ∧ k = h4.next) ∨ (i = 1 ∧ k < h1.next) ∨ (i = 2 ∧ h1.next ≤ k ∧ k < h2.next) ∨ (i = 5 ∧ k = h2.next) ∨ (i = 6 ∧ k = h2.next + 1) := by
      intro i hi k hk
      have : i = 0 ∨ i = 1 ∨ i = 2 ∨ i = 3 ∨ i = 4 ∨ i = 5 ∨ i = 6 := by omega
      rcases this with rfl | rfl | rfl | rfl | rfl | rfl | rfl
      · exact .inl ⟨rfl, by simpa [Sp] using hk⟩
      · exact .inr (.inl ⟨rfl, lt0 k hk⟩)
      · exact .inr (.inr (.inl ⟨rfl, s1 k hk, lt1 k hk⟩))
      · simp [Sp] at hk
      · simp [Sp] at hk
      · exact .inr (.inr (.inr (.inl ⟨rfl, by simpa [Sp] using hk⟩)))
      · exact .inr (.inr (.inr (.inr ⟨rfl, by simpa [Sp] using hk⟩)))
    intro i j hi hj hij k hk hm
    have r1 := rk i hi k hk
    have r2 := rk j hj k hm
    omega
  · intro k hk
    obtain ⟨i, hi, g⟩ := mem_allS.1 hk
    have : i = 0 ∨ i = 1 ∨ i = 2 ∨ i = 3 ∨ i = 4 ∨ i = 5 ∨ i = 6 := by omega
    rcases this with rfl | rfl | rfl | rfl | rfl | rfl | rfl
    · have : k = h4.next := by simpa [Sp] using g
      omega
    · exact s0 k g
    · have := s1 k g; omega
    · simp [Sp] at g
    · simp [Sp] at g
    · have : k = h2.next := by simpa [Sp] using g
      omega
    · have : k = h2.next + 1 := by simpa [Sp] using g
      omega

/-! ### what both say -/

def addTo (b : List (List UInt8)) : List (List UInt8) → List (List UInt8)
  | [] => b
  | x :: l => addTo (if b.length < 200 then b ++ [x] else b) l
theorem addTo_snoc (l : List (List UInt8)) (x : List UInt8) : ∀ b, addTo b (l ++ [x]) = if (addTo b l).length < 200 then addTo b l ++ [x] else addTo b l := by
  induction l with
  | nil => intro b; rfl
  | cons y l ih => intro b; simp only [List.cons_append, addTo]; exact ih _
theorem addTo_len (l : List (List UInt8)) : ∀ b, (addTo b l).length ≤ max b.length 200 := by
  induction l with
  | nil => intro b; simp [addTo]; omega
  | cons y l ih =>
    intro b
    simp only [addTo]
    have := ih (if b.length < 200 then b ++ [y] else b)
    split at this <;> rename_i h
    · rw [if_pos h]
      simp only [List.length_append, List.length_cons, List.length_nil] at this
      omega
    · rw [if_neg h]
      exact this

def Pr.outS (P : Pr) (i : Nat) : Pr := { P with t := set1 P.t i { P.t i with out := [] }, bag := set1 P.bag (1 - i) (addTo (P.bag (1 - i)) (P.t i).out) }
def Pr.outs (P : Pr) : Pr := (P.outS 0).outS 1

theorem set1utwice {α : Type} (f : Nat → α) (i : Nat) (x y : α) : set1 (set1 f i x) i y = set1 f i y := by
  funext j
  by_cases e : j = i <;> simp [set1, e]

set_option maxHeartbeats 1000000 in
theorem outs_spec {p : Nat} {P : Pr} {ta : Nat → Nat} {bv : Nat → V} {ms mt : Nat} {Sp : Nat → List Nat} (q : PairP h p P ta bv ms mt Sp) (hm : ∀ i, i < 2 → (P.t i).me > 0) (ho : ∀ i, i < 2 → (P.t i).out.length ≤ 1000000) (hb : ∀ i, i < 2 → (P.bag i).length ≤ 1000) (R : V → Heap → Prop)
    (hR : ∀ h' bv' Sp', PairP h' p P.outs ta bv' ms mt Sp' → Up h h' (allS Sp) (allS Sp') → R (.tup []) h') : Calls0 Tryd.prog G 58 [.ptr p 0 0] h R := by
  refine fn_walk mixed fn58uis [14] rfl ?_
  simp only [go_sem, true_and, and_true, ↓reduceIte, Nat.reduceEqDiff, Nat.reduceAdd, Bool.not_true, Bool.not_false, List.getElem?_cons_zero, List.getElem?_cons_succ, decide_true, decide_false, Bool.false_eq_true, fn58]
  refine w_loop (fun a h' n => n ≤ 2 ∧ a 0 = .ptr p 0 0 ∧ a 5 = .int .i64 ((2 - n : Nat) : Int) ∧ ∃ P' bv' Sp', P' = (if n = 2 then P else if n = 1 then P.outS 0 else P.outs) ∧ PairP h' p P' ta bv' ms mt Sp' ∧ Up h h' (allS Sp) (allS Sp')) 2 ?_ ?_
  · exact ⟨Nat.le_refl _, rfl, rfl, P, bv, Sp, rfl, q, Up.refl _ _⟩
  · rintro a h1 n ⟨hn, a0, a5, P', bv', Sp', hP, q1, u1⟩
    cases n with
    | zero =>
      have ci : ¬ ((2 - 0 : Nat) : Int) < 2 := by omega
      simp only [go_sem, true_and, and_true, ↓reduceIte, Nat.reduceEqDiff, Nat.reduceAdd, Bool.not_true, Bool.not_false, List.getElem?_cons_zero, List.getElem?_cons_succ, decide_true, decide_false, Bool.false_eq_true, fn58u6, a5, ci]
      rw [if_neg (by omega), if_neg (by omega)] at hP
      subst hP
      exact hR h1 bv' Sp' q1 u1
    | succ m =>
      have hm2 : m < 2 := by omega
      obtain ⟨i, hi⟩ : ∃ i, 2 - (m + 1) = i := ⟨_, rfl⟩
      have hi2 : i < 2 := by omega
      have ci : ((i : Nat) : Int) < 2 := by omega
      have wi : IntKind.i64.wrap ((i : Int) + 1) = ((2 - m : Nat) : Int) := by rw [wrap64 (by omega) (by omega)]; omega
      have w1 : IntKind.i64.wrap (1 - (i : Int)) = ((1 - i : Nat) : Int) := by rw [wrap64 (by omega) (by omega)]; omega
      have hj2 : 1 - i < 2 := by omega
      rw [hi] at a5
      have lt : loadV h1 false 1 (.ptr p 0 i) = some (.ptr (ta i) 0 0) := ld0 q1.obj (prC_tun hi2)
      simp only [go_sem, true_and, and_true, ↓reduceIte, Nat.reduceEqDiff, Nat.reduceAdd, Bool.not_true, Bool.not_false, List.getElem?_cons_zero, List.getElem?_cons_succ, decide_true, decide_false, Bool.false_eq_true, fn58u6, fn58u5, a0, a5, ci, idx_nat, hi2, Nat.mul_one, Nat.zero_add, lt]
      have hPt : ∀ j, j < 2 → (P'.t j).me = (P.t j).me := by
        intro j hj
        rw [hP]
        split
        · rfl
        · rename_i h2
          rw [if_pos (by omega)]
          show (set1 P.t 0 { P.t 0 with out := [] } j).me = _
          by_cases e : j = 0
          · subst e; rw [set1usame]
          · rw [set1une _ _ e]
      have hPo : (P'.t i).out = (P.t i).out := by
        rw [hP]
        split
        · rfl
        · rename_i h2
          rw [if_pos (by omega)]
          show (set1 P.t 0 { P.t 0 with out := [] } i).out = _
          rw [set1une _ _ (by omega)]
      have hPb : (P'.bag (1 - i)).length ≤ 1000 := by
        rw [hP]
        split
        · exact hb _ hj2
        · rename_i h2
          rw [if_pos (by omega)]
          have hi1 : i = 1 := by omega
          subst hi1
          have : (P.outS 0).bag 0 = P.bag 0 := by
            show set1 P.bag (1 - 0) (addTo (P.bag (1 - 0)) (P.t 0).out) 0 = _
            exact set1une _ _ (by omega)
          show ((P.outS 0).bag 0).length ≤ _
          rw [this]
          exact hb 0 (by omega)
      refine out_spec (q1.tun i hi2) (by rw [hPt i hi2]; exact hm i hi2) _ ?_
      intro v h2 So S' r2 t2 f2 n2 so s' ds
      have q2 := q1.setTun' hi2 (T := { P'.t i with out := [] }) ⟨f2, fun k hk => .inl (s' k hk)⟩ t2
      have u2 : Up h1 h2 (allS Sp') (allS (set1 Sp' (1 + i) S')) := up_part (by omega) f2 (fun k hk => .inr (.inl hk)) (fun k hk => .inl (s' k hk))
      have ho' := ho i hi2
      rw [hPo] at r2
      simp only [go_sem, true_and, and_true, ↓reduceIte, Nat.reduceEqDiff, Nat.reduceAdd, Bool.not_true, Bool.not_false, List.getElem?_cons_zero, List.getElem?_cons_succ, decide_true, decide_false, Bool.false_eq_true]
      refine frz_row r2 ?_
      intro h3 f3 n3
      have q3 := q2.fr f3 (fun j hj k hk hm => by
        by_cases e : j = 1 + i
        · subst e
          rw [set1usame] at hk
          exact ds k hm hk
        · rw [set1une _ _ e] at hk
          exact q1.dis j (1 + i) hj (by omega) e k hk (so k hm))
      have u3 : Up h h3 (allS Sp) (allS (set1 Sp' (1 + i) S')) := by
        refine ⟨?_, (u1.trans u2).sub⟩
        exact (u1.trans u2).fr.trans f3 (fun k hk => u1.sub k (mem_allS.2 ⟨1 + i, by omega, so k hk⟩))
      have ln : lenV (.lst ((P.t i).out.map lb)) = some (P.t i).out.length := by simp [lenV]
      generalize set1 Sp' (1 + i) S' = Sp2 at *
      simp only [go_sem, true_and, and_true, ↓reduceIte, Nat.reduceEqDiff, Nat.reduceAdd, Bool.not_true, Bool.not_false, List.getElem?_cons_zero, List.getElem?_cons_succ, decide_true, decide_false, Bool.false_eq_true, a0, a5, ln, List.length_map]
      refine w_loop (fun a h' n => n ≤ (P.t i).out.length ∧ a 0 = .ptr p 0 0 ∧ a 2 = .int .i64 (i : Int) ∧ a 5 = .int .i64 (i : Int) ∧ a 14 = .lst ((P.t i).out.map lb) ∧ a 15 = .int .i64 (P.t i).out.length ∧ a 16 = .int .i64 (((P.t i).out.length - n : Nat) : Int) ∧
        ∃ bv3 Sp3, PairP h' p { P' with t := set1 P'.t i { P'.t i with out := [] }, bag := set1 P'.bag (1 - i) (addTo (P'.bag (1 - i)) ((P.t i).out.take ((P.t i).out.length - n))) } ta bv3 ms mt Sp3 ∧ Up h h' (allS Sp) (allS Sp3)) (P.t i).out.length ?_ ?_
      · refine ⟨Nat.le_refl _, ?_, ?_, ?_, ?_, ?_, ?_, bv', Sp2, ?_, u3⟩
        · simp only [go_sem, true_and, and_true, ↓reduceIte, Nat.reduceEqDiff, Nat.reduceAdd, Bool.not_true, Bool.not_false, List.getElem?_cons_zero, List.getElem?_cons_succ, decide_true, decide_false, Bool.false_eq_true, a0]
        · simp only [go_sem, true_and, and_true, ↓reduceIte, Nat.reduceEqDiff, Nat.reduceAdd, Bool.not_true, Bool.not_false, List.getElem?_cons_zero, List.getElem?_cons_succ, decide_true, decide_false, Bool.false_eq_true, a5]
        · simp only [go_sem, true_and, and_true, ↓reduceIte, Nat.reduceEqDiff, Nat.reduceAdd, Bool.not_true, Bool.not_false, List.getElem?_cons_zero, List.getElem?_cons_succ, decide_true, decide_false, Bool.false_eq_true, a5]
        · simp only [go_sem, true_and, and_true, ↓reduceIte, Nat.reduceEqDiff, Nat.reduceAdd, Bool.not_true, Bool.not_false, List.getElem?_cons_zero, List.getElem?_cons_succ, decide_true, decide_false, Bool.false_eq_true]
        · simp only [go_sem, true_and, and_true, ↓reduceIte, Nat.reduceEqDiff, Nat.reduceAdd, Bool.not_true, Bool.not_false, List.getElem?_cons_zero, List.getElem?_cons_succ, decide_true, decide_false, Bool.false_eq_true]
        · simp only [go_sem, true_and, and_true, ↓reduceIte, Nat.reduceEqDiff, Nat.reduceAdd, Bool.not_true, Bool.not_false, List.getElem?_cons_zero, List.getElem?_cons_succ, decide_true, decide_false, Bool.false_eq_true, Nat.sub_self]
          rfl
        · have : set1 P'.bag (1 - i) (addTo (P'.bag (1 - i)) ((P.t i).out.take ((P.t i).out.length - (P.t i).out.length))) = P'.bag := by
            rw [Nat.sub_self]
            funext j
            by_cases e : j = 1 - i
            · subst e; rw [set1usame]; rfl
            · rw [set1une _ _ e]
          rw [this]
          exact q3
      · rintro a h4 n ⟨hn4, a0, a2, a5, a14, a15, a16, bv3, Sp3, q4, u4⟩
        cases n with
        | zero =>
          have ci4 : ¬ (((P.t i).out.length - 0 : Nat) : Int) < ((P.t i).out.length : Int) := by omega
          simp only [go_sem, true_and, and_true, ↓reduceIte, Nat.reduceEqDiff, Nat.reduceAdd, Bool.not_true, Bool.not_false, List.getElem?_cons_zero, List.getElem?_cons_succ, decide_true, decide_false, Bool.false_eq_true, fn58u3, fn58u4, a0, a2, a5, a15, a16, ci4, wi]
          refine ⟨m, by omega, by omega, rfl, _, bv3, Sp3, ?_, q4, u4⟩
          rw [Nat.sub_zero, List.take_length, ← hPo]
          have e1 : P'.outS i = { P' with t := set1 P'.t i { P'.t i with out := [] }, bag := set1 P'.bag (1 - i) (addTo (P'.bag (1 - i)) (P'.t i).out) } := rfl
          rw [← e1, hP]
          have : m = 0 ∨ m = 1 := by omega
          rcases this with rfl | rfl
          · have : i = 1 := by omega
            subst this
            rfl
          · have : i = 0 := by omega
            subst this
            rfl
        | succ n =>
          have ci4 : (((P.t i).out.length - (n + 1) : Nat) : Int) < ((P.t i).out.length : Int) := by omega
          have hlt : (P.t i).out.length - (n + 1) < (P.t i).out.length := by omega
          have wn : IntKind.i64.wrap ((((P.t i).out.length - (n + 1) : Nat) : Int) + 1) = (((P.t i).out.length - n : Nat) : Int) := by rw [wrap64 (by omega) (by omega)]; omega
          have tk : (P.t i).out.take ((P.t i).out.length - n) = (P.t i).out.take ((P.t i).out.length - (n + 1)) ++ [(P.t i).out[(P.t i).out.length - (n + 1)]] := by
            rw [show (P.t i).out.length - n = (P.t i).out.length - (n + 1) + 1 from by omega, List.take_add_one, List.getElem?_eq_getElem hlt]; rfl
          have b4 := q4.bag (1 - i) hj2
          simp only [set1usame] at b4
          have lb4 : loadV h4 false 1 (.ptr p 0 (2 + (1 - i))) = some (bv3 (1 - i)) := ld0 q4.obj (prC_bag hj2)
          have nb4 := b4.len
          rw [List.length_map] at nb4
          have hal := addTo_len ((P.t i).out.take ((P.t i).out.length - (n + 1))) (P'.bag (1 - i))
          have hsn := addTo_snoc ((P.t i).out.take ((P.t i).out.length - (n + 1))) (P.t i).out[(P.t i).out.length - (n + 1)] (P'.bag (1 - i))
          rw [← tk] at hsn
          generalize hbb : addTo (P'.bag (1 - i)) ((P.t i).out.take ((P.t i).out.length - (n + 1))) = bb at *
          simp only [go_sem, true_and, and_true, ↓reduceIte, Nat.reduceEqDiff, Nat.reduceAdd, Bool.not_true, Bool.not_false, List.getElem?_cons_zero, List.getElem?_cons_succ, decide_true, decide_false, Bool.false_eq_true, fn58u3, fn58u2, a0, a2, a14, a15, a16, ci4]
          refine go_iaddr (k := .i64) (n := (P.t i).out.length - (n + 1)) (e := lb (P.t i).out[(P.t i).out.length - (n + 1)]) (v := .lst ((P.t i).out.map lb)) (xs := (P.t i).out.map lb) (Rs.lst (lb_cells1 _)) ?_ ?_ ?_ ?_
          · simp only [go_sem, true_and, and_true, ↓reduceIte, Nat.reduceEqDiff, Nat.reduceAdd, Bool.not_true, Bool.not_false, List.getElem?_cons_zero, List.getElem?_cons_succ, decide_true, decide_false, Bool.false_eq_true, a14]
          · simp only [go_sem, true_and, and_true, ↓reduceIte, Nat.reduceEqDiff, Nat.reduceAdd, Bool.not_true, Bool.not_false, List.getElem?_cons_zero, List.getElem?_cons_succ, decide_true, decide_false, Bool.false_eq_true, a16]
          · simp [hlt]
          intro p1 r1
          have m1 := r1.load1 (e := lb (P.t i).out[(P.t i).out.length - (n + 1)]) rfl
          by_cases c2 : bb.length < 200
          · have c2' : (bb.length : Int) < 200 := by omega
            rw [if_pos c2] at hsn
            simp only [go_sem, true_and, and_true, ↓reduceIte, Nat.reduceEqDiff, Nat.reduceAdd, Bool.not_true, Bool.not_false, List.getElem?_cons_zero, List.getElem?_cons_succ, decide_true, decide_false, Bool.false_eq_true, m1, a0, a2, w1, idx_nat, hj2, Nat.mul_one, lb4, nb4, c2']
            refine go_bslice (xs := [lb (P.t i).out[(P.t i).out.length - (n + 1)]]) rfl rfl (by omega) ?_ rfl ?_
            · simp only [go_sem, true_and, and_true, ↓reduceIte, Nat.reduceEqDiff, Nat.reduceAdd, Bool.not_true, Bool.not_false, List.getElem?_cons_zero, List.getElem?_cons_succ, decide_true, decide_false, Bool.false_eq_true]
              rfl
            intro v5 h5 w5 f5
            have q5 := q4.new f5 (by simp)
            have lb5 : loadV h5 false 1 (.ptr p 0 (2 + (1 - i))) = some (bv3 (1 - i)) := ld0 q5.obj (prC_bag hj2)
            have b5 := q5.bag (1 - i) hj2
            simp only [set1usame] at b5
            simp only [go_sem, true_and, and_true, ↓reduceIte, Nat.reduceEqDiff, Nat.reduceAdd, Bool.not_true, Bool.not_false, List.getElem?_cons_zero, List.getElem?_cons_succ, decide_true, decide_false, Bool.false_eq_true, lb5]
            refine go_appendB (b := lb (P.t i).out[(P.t i).out.length - (n + 1)]) b5 ?_ ?_ rfl (by simp; omega) ?_
            · simp only [go_sem, true_and, and_true, ↓reduceIte, Nat.reduceEqDiff, Nat.reduceAdd, Bool.not_true, Bool.not_false, List.getElem?_cons_zero, List.getElem?_cons_succ, decide_true, decide_false, Bool.false_eq_true]
            · simp only [go_sem, true_and, and_true, ↓reduceIte, Nat.reduceEqDiff, Nat.reduceAdd, Bool.not_true, Bool.not_false, List.getElem?_cons_zero, List.getElem?_cons_succ, decide_true, decide_false, Bool.false_eq_true]
              exact w5.read
            intro S6 v6 h6 b6 f6 s6
            have hpB : p ∉ Sp3 (3 + (1 - i)) := q5.dis 0 (3 + (1 - i)) (by omega) (by omega) (by omega) p (by rw [q5.own]; simp)
            have e6 := f6.at q5.obj hpB
            simp only [go_sem, true_and, and_true, ↓reduceIte, Nat.reduceEqDiff, Nat.reduceAdd, Bool.not_true, Bool.not_false, List.getElem?_cons_zero, List.getElem?_cons_succ, decide_true, decide_false, Bool.false_eq_true, w1, idx_nat, hj2, Nat.mul_one]
            refine go_store0 (v := v6) (sub := 2 + (1 - i)) e6 ?_ ?_ b6.one (by simp [prC]; omega) ?_
            · simp only [go_sem, true_and, and_true, ↓reduceIte, Nat.reduceEqDiff, Nat.reduceAdd, Bool.not_true, Bool.not_false, List.getElem?_cons_zero, List.getElem?_cons_succ, decide_true, decide_false, Bool.false_eq_true]
            · simp only [go_sem, true_and, and_true, ↓reduceIte, Nat.reduceEqDiff, Nat.reduceAdd, Bool.not_true, Bool.not_false, List.getElem?_cons_zero, List.getElem?_cons_succ, decide_true, decide_false, Bool.false_eq_true]
            intro h7 f7 n7 e7
            rw [prC_setB hj2] at e7
            have f57 : Fr (Sp3 (3 + (1 - i)) ++ [p]) h5 h7 := (f6.mono (fun k hk => List.mem_append_left _ hk)).trans f7 (fun k hk => .inl (List.mem_append_right _ hk))
            have hZ : ∀ k ∈ Sp3 (3 + (1 - i)) ++ [p], k ∈ Sp3 0 ∨ k ∈ Sp3 (3 + (1 - i)) ∨ h5.next ≤ k := fun k hk => by
              simp only [List.mem_append, List.mem_singleton] at hk
              rcases hk with hk | rfl
              · exact .inr (.inl hk)
              · exact .inl (by rw [q5.own]; simp)
            have p6 : p ∉ S6 := fun hk => by
              rcases s6 p hk with g | g
              · exact hpB g
              · have := Heap.lt_next q5.obj; omega
            have b7 := b6.fr f7 (fun k hk hm => p6 (by simp at hm; exact hm ▸ hk))
            have hmap : bb.map lb ++ [lb (P.t i).out[(P.t i).out.length - (n + 1)]] = (bb ++ [(P.t i).out[(P.t i).out.length - (n + 1)]]).map lb := by rw [List.map_append]; rfl
            rw [hmap] at b7
            have q7 := q5.setBag hj2 (l := bb ++ [(P.t i).out[(P.t i).out.length - (n + 1)]]) f57 hZ e7 b7 s6
            have u7 : Up h5 h7 (allS Sp3) (allS (set1 Sp3 (3 + (1 - i)) S6)) := up_part (by omega) f57 hZ s6
            have u5 : Up h4 h5 (allS Sp3) (allS Sp3) := ⟨f5.mono (by simp), fun _ hk => .inl hk⟩
            simp only [go_sem, true_and, and_true, ↓reduceIte, Nat.reduceEqDiff, Nat.reduceAdd, Bool.not_true, Bool.not_false, List.getElem?_cons_zero, List.getElem?_cons_succ, decide_true, decide_false, Bool.false_eq_true, fn58u1, a0, a2, a5, a14, a15, a16, wn]
            simp only [set1utwice] at q7
            rw [← hsn] at q7
            exact ⟨n, by omega, by omega, rfl, _, _, q7, (u4.trans u5).trans u7⟩
          · have c2' : ¬ (bb.length : Int) < 200 := by omega
            rw [if_neg c2] at hsn
            simp only [go_sem, true_and, and_true, ↓reduceIte, Nat.reduceEqDiff, Nat.reduceAdd, Bool.not_true, Bool.not_false, List.getElem?_cons_zero, List.getElem?_cons_succ, decide_true, decide_false, Bool.false_eq_true, m1, a0, a2, w1, idx_nat, hj2, Nat.mul_one, lb4, nb4, c2', fn58u1, a5, a14, a15, a16, wn]
            rw [← hsn] at q4
            exact ⟨n, by omega, by omega, rfl, _, _, q4, u4⟩

end Go.Am

/- The pair: take. -/
namespace Go.Am
open Go.Proofs
variable {G : Nat → V} {h h' h'' : Heap} {fz : List Nat} {a : Tm} {K : Tm → Heap → Prop}

/-! ### what stays when a tunnel takes something -/

theorem slideGo_keep : ∀ (q : List (List UInt8)) (T : Tn), (T.slideGo q).me = T.me ∧ (T.slideGo q).you = T.you ∧ (T.slideGo q).up = T.up ∧ (T.slideGo q).epoch = T.epoch ∧ (T.slideGo q).ticks = T.ticks ∧ (T.slideGo q).expect = T.expect ∧ (T.slideGo q).early = T.early ∧ (T.slideGo q).silence = T.silence
  | [], T => ⟨rfl, rfl, rfl, rfl, rfl, rfl, rfl, rfl⟩
  | b :: q, T => by
    unfold Tn.slideGo
    split
    · exact slideGo_keep q (T.step b q)
    · exact ⟨rfl, rfl, rfl, rfl, rfl, rfl, rfl, rfl⟩
theorem tell_keep : ∀ (n : Nat) (T : Tn), (Tn.tell n T).1.me = T.me ∧ (Tn.tell n T).1.you = T.you ∧ (Tn.tell n T).1.up = T.up ∧ (Tn.tell n T).1.epoch = T.epoch ∧ (Tn.tell n T).1.ticks = T.ticks ∧ (Tn.tell n T).1.way = T.way ∧ (Tn.tell n T).1.queue = T.queue ∧ (Tn.tell n T).1.next = T.next ∧ (Tn.tell n T).1.out = T.out ∧ (Tn.tell n T).1.silence = T.silence
  | 0, T => ⟨rfl, rfl, rfl, rfl, rfl, rfl, rfl, rfl, rfl, rfl⟩
  | n + 1, T => by
    unfold Tn.tell
    split
    · exact ⟨rfl, rfl, rfl, rfl, rfl, rfl, rfl, rfl, rfl, rfl⟩
    · exact tell_keep n { T with early := eDel (T.expect + 1) T.early, expect := T.expect + 1 }
theorem tell_len : ∀ (n : Nat) (T : Tn), (Tn.tell n T).2.length ≤ n
  | 0, T => by simp [Tn.tell]
  | n + 1, T => by
    unfold Tn.tell
    split
    · simp
    · have := tell_len n { T with early := eDel (T.expect + 1) T.early, expect := T.expect + 1 }
      simp only [List.length_cons]
      omega
theorem ePut_len (k : Int) (b : List UInt8) (l : Es) : (ePut k b l).length ≤ l.length + 1 := by
  induction l with
  | nil => simp [ePut]
  | cons p l ih => simp only [ePut]; split <;> simp; omega
theorem keep_len (T : Tn) (f : Fm) : (T.keep f).early.length ≤ T.early.length + 1 := by
  unfold Tn.keep
  split
  · exact ePut_len _ _ _
  · omega

theorem take_me (T : Tn) (bs : List UInt8) : (T.take bs).1.me = T.me := by
  unfold Tn.take
  split
  · rfl
  · split
    · unfold Tn.hello
      split
      · split <;> rfl
      · split
        · rfl
        · split <;> rfl
    · split
      · dsimp only
        split <;> rfl
      · split
        · exact (slideGo_keep _ _).1
        · show (Tn.tell _ (Tn.keep _ _)).1.me = _
          rw [(tell_keep _ _).1]
          unfold Tn.keep
          split <;> rfl
theorem take_got (T : Tn) (bs : List UInt8) : (T.take bs).2.1.length ≤ T.early.length + 1 := by
  unfold Tn.take
  split
  · simp
  · split
    · simp
    · split
      · simp
      · split
        · simp
        · exact Nat.le_trans (tell_len _ _) (keep_len _ _)

/-- What Take asks for. -/
structure TkB (T : Tn) : Prop where
  me : T.me > 0
  ep : 0 ≤ T.epoch ∧ T.epoch ≤ 1099511627776
  ex : 0 ≤ T.expect ∧ T.expect ≤ 1099511627776
  el : T.early.length ≤ 100000
  sl : SlB T

def Pr.lose (P : Pr) (i at' : Nat) : Pr := { P with bag := set1 P.bag i ((P.bag i).eraseIdx at') }
def Pr.got (P : Pr) (i : Nat) (b : List UInt8) : Pr := { P with t := set1 P.t i ((P.t i).take b).1, told := aAdd (((P.t i).take b).1.you, ((P.t i).take b).1.me, (i : Int)) ((P.t i).take b).2.1 P.told }
def Pr.fine (P : Pr) (i : Nat) (er : Int) : Bool :=
  decide (er = 0) && (decide ((aGet ((P.t i).you, (P.t i).me, (i : Int)) P.told).length ≤ (aGet ((P.t i).you, (P.t i).me, (i : Int)) P.sent).length) &&
    decide (aGet ((P.t i).you, (P.t i).me, (i : Int)) P.told = (aGet ((P.t i).you, (P.t i).me, (i : Int)) P.sent).take (aGet ((P.t i).you, (P.t i).me, (i : Int)) P.told).length))
def Pr.take1 (P : Pr) (i at' : Nat) (stay : Bool) : Pr := if stay then P else P.lose i at'
def Pr.take (P : Pr) (i at' : Nat) (stay : Bool) : Pr × Bool :=
  (((P.take1 i at' stay).got i ((P.bag i).getD at' [])), ((P.take1 i at' stay).got i ((P.bag i).getD at' [])).fine i (((P.t i).take ((P.bag i).getD at' [])).2.2))

variable {p : Nat} {P : Pr} {ta : Nat → Nat} {bv : Nat → V} {ms mt : Nat} {Sp : Nat → List Nat}

/-- p.bag[i] = slices.Delete(slices.Clone(p.bag[i]), at, at+1), behind the clone. -/
theorem lose_store (q : PairP h p P ta bv ms mt Sp) {i at' : Nat} (hi : i < 2) {S' : List Nat} {v : V} (b : Buf h S' (((P.bag i).eraseIdx at').map lb) v) (hs : ∀ k ∈ S', ∀ j, j < 7 → k ∉ Sp j) {h0 : Heap} (hn : ∀ k ∈ S', h0.next ≤ k) (u : Up h0 h (allS Sp) (allS Sp)) {ins : Ins} {x y : Opd} (hx : x.ev G a = .ptr p 0 (2 + i)) (hy : y.ev G a = v)
    (hk : ∀ h' bv' Sp', PairP h' p (P.lose i at') ta bv' ms mt Sp' → Up h0 h' (allS Sp) (allS Sp') → putD G fz ins K a .undef h') : goO G fz ins K a (stepI G a h (.store 1 x y)) := by
  refine go_store0 (v := v) (sub := 2 + i) q.obj hx hy b.one (by simp [prC]; omega) ?_
  intro h1 f1 n1 e1
  rw [prC_setB hi] at e1
  have p0 : p ∈ Sp 0 := by rw [q.own]; simp
  have b1 := b.fr f1 (fun j hj hm => by simp at hm; exact hs j hj 0 (by omega) (by rw [hm]; exact p0))
  refine hk h1 (set1 bv i v) (set1 Sp (3 + i) S') ?_ ?_
  · have ap : ∀ j, j < 7 → j ≠ 0 → ∀ k ∈ Sp j, k ∉ [p] := fun j hj h0 k hk hm => by
      simp at hm
      exact q.dis j 0 hj (by omega) h0 k hk (by rw [hm]; exact p0)
    refine ⟨e1, by rw [set1une _ _ (by omega)]; exact q.own, fun j hj => ?_, fun j hj => ?_, ?_, ?_, ?_⟩
    · rw [set1une _ _ (by omega)]
      exact (q.tun j hj).fr f1 (ap _ (by omega) (by omega))
    · by_cases e : j = i
      · subst e
        rw [set1usame, set1usame]
        show Buf h1 S' ((set1 P.bag j _ j).map lb) v
        rw [set1usame]
        exact b1
      · rw [set1une _ _ e, set1une _ _ (by omega)]
        show Buf h1 (Sp (3 + j)) ((set1 P.bag i _ j).map lb) (bv j)
        rw [set1une _ _ e]
        exact (q.bag j hj).fr f1 (ap _ (by omega) (by omega))
    · rw [set1une _ _ (by omega)]
      exact q.sent.fr f1 (ap 5 (by omega) (by omega))
    · rw [set1une _ _ (by omega)]
      exact q.told.fr f1 (ap 6 (by omega) (by omega))
    · intro x y hx hy hxy k hk hm
      by_cases ex : x = 3 + i
      · subst ex
        rw [set1usame] at hk
        rw [set1une _ _ (Ne.symm hxy)] at hm
        exact hs k hk y hy hm
      · rw [set1une _ _ ex] at hk
        by_cases ey : y = 3 + i
        · subst ey
          rw [set1usame] at hm
          exact hs k hm x hx hk
        · rw [set1une _ _ ey] at hm
          exact q.dis x y hx hy hxy k hk hm
  · refine ⟨u.fr.trans f1 (fun k hk => by simp at hk; exact .inl (mem_allS.2 ⟨0, by omega, by rw [hk]; exact p0⟩)), fun k hk => ?_⟩
    obtain ⟨j, hj, g⟩ := mem_allS.1 hk
    by_cases e : j = 3 + i
    · subst e
      rw [set1usame] at g
      exact .inr (hn k g)
    · rw [set1une _ _ e] at g
      exact .inl (mem_allS.2 ⟨j, hj, g⟩)


theorem aGet_aAdd (k : Ky) (ys : List (List UInt8)) : ∀ es : Ac, aGet k (aAdd k ys es) = aGet k es ++ ys
  | [] => by simp [aAdd, aGet]
  | e :: es => by
    simp only [aAdd, aGet]
    split
    · rename_i c
      simp [aGet, c]
    · rename_i c
      simp only [aGet, if_neg c]
      exact aGet_aAdd k ys es
def acK (P : Pr) (i : Nat) : Ky := ((P.t i).you, (P.t i).me, (i : Int))
theorem szOk_lb' (l : List (List UInt8)) : szOk 1 (l.map lb) = true := szOk_lb l

/-- What was told is put down and held against what was sent. -/
theorem take_end {i : Nat} {er : Int} {gs : List (List UInt8)} {o : Nat} (q : PairP h p P ta bv ms mt Sp) (hi : i < 2) (eo : h.obj o = some (.arr 39 3 [keyV (acK P i)])) (ho : ∀ j, j < 7 → o ∉ Sp j) (hg : gs.length ≤ 1000000) (hl : (aGet (acK P i) P.told).length ≤ 500000) (hs : (aGet (acK P i) P.sent).length ≤ 1000000) (hg' : gs.length ≤ 200000)
    (a0 : a 0 = .ptr p 0 0) {gv : V} {Sg : List Nat} (rg : Row h Sg 27 1 (gs.map lb) gv) (hgd : ∀ j, j < 7 → ∀ k ∈ Sg, k ∉ Sp j) (a10 : a 10 = gv) (a11 : a 11 = .int .i64 er) (a12 : a 12 = .ptr o 0 0) (R : V → Heap → Prop)
    (hR : ∀ h' Sp', PairP h' p { P with told := aAdd (acK P i) gs P.told } ta bv ms mt Sp' → Up h h' (allS Sp) (allS Sp') → R (.bool (Pr.fine { P with told := aAdd (acK P i) gs P.told } i er)) h') :
    wpC (Calls0 Tryd.prog G) G [] fn57u1 (postF R [.tmp 8]) a h := by
  have l5 : loadV h false 1 (.ptr p 0 5) = some (.map mt) := ld0 q.obj rfl
  have lk : loadV h true 3 (.ptr o 0 0) = some (keyV (acK P i)) := ldA eo rfl
  simp only [go_sem, true_and, and_true, ↓reduceIte, Nat.reduceEqDiff, Nat.reduceAdd, Bool.not_true, Bool.not_false, List.getElem?_cons_zero, List.getElem?_cons_succ, decide_true, decide_false, Bool.false_eq_true, fn57u1, a0, a10, l5, a12, lk]
  refine go_mentryA (m := mt) (k := acK P i) q.told ?_ ?_ ?_
  · simp only [go_sem, true_and, and_true, ↓reduceIte, Nat.reduceEqDiff, Nat.reduceAdd, Bool.not_true, Bool.not_false, List.getElem?_cons_zero, List.getElem?_cons_succ, decide_true, decide_false, Bool.false_eq_true]
  · simp only [go_sem, true_and, and_true, ↓reduceIte, Nat.reduceEqDiff, Nat.reduceAdd, Bool.not_true, Bool.not_false, List.getElem?_cons_zero, List.getElem?_cons_succ, decide_true, decide_false, Bool.false_eq_true]
  intro v n f Sk S1 h1 r1 w1 hf hS hd f1 n1
  simp only [go_sem, true_and, and_true, ↓reduceIte, Nat.reduceEqDiff, Nat.reduceAdd, Bool.not_true, Bool.not_false, List.getElem?_cons_zero, List.getElem?_cons_succ, decide_true, decide_false, Bool.false_eq_true]
  refine go_appendR (ys := gs.map lb) r1 ?_ ?_ ?_ ?_ (szOk_lb gs) ?_
  · simp only [go_sem, true_and, and_true, ↓reduceIte, Nat.reduceEqDiff, Nat.reduceAdd, Bool.not_true, Bool.not_false, List.getElem?_cons_zero, List.getElem?_cons_succ, decide_true, decide_false, Bool.false_eq_true]
  · simp only [go_sem, true_and, and_true, ↓reduceIte, Nat.reduceEqDiff, Nat.reduceAdd, Bool.not_true, Bool.not_false, List.getElem?_cons_zero, List.getElem?_cons_succ, decide_true, decide_false, Bool.false_eq_true]
    exact (rg.fr f1 (fun k hk hm => by simp at hm; exact hgd 6 (by omega) k hk (by rw [hm]; exact q.told.mem))).read
  · simp only [List.length_map]; omega
  · simp only [List.length_map]; omega
  intro S2 v2 h2 r2 f2 s2
  simp only [go_sem, true_and, and_true, ↓reduceIte, Nat.reduceEqDiff, Nat.reduceAdd, Bool.not_true, Bool.not_false, List.getElem?_cons_zero, List.getElem?_cons_succ, decide_true, decide_false, Bool.false_eq_true]
  rw [← List.map_append] at r2
  have w2 : AccO h2 mt (acK P i) n f S1 := w1.fr f2 (fun j hj hk => hd j hk hj)
  have d2 : ∀ j ∈ S2, j ∉ S1 := fun j hj hm => by
    rcases s2 j hj with g | g
    · exact hd j g hm
    · have := q.told.lt j ((hS j).2 (.inr hm)); omega
  refine go_estoreA w2 r2 d2 ?_ ?_ ?_ ?_
  · simp only [go_sem, true_and, and_true, ↓reduceIte, Nat.reduceEqDiff, Nat.reduceAdd, Bool.not_true, Bool.not_false, List.getElem?_cons_zero, List.getElem?_cons_succ, decide_true, decide_false, Bool.false_eq_true]
  · simp only [go_sem, true_and, and_true, ↓reduceIte, Nat.reduceEqDiff, Nat.reduceAdd, Bool.not_true, Bool.not_false, List.getElem?_cons_zero, List.getElem?_cons_succ, decide_true, decide_false, Bool.false_eq_true]
  · simp only [go_sem, true_and, and_true, ↓reduceIte, Nat.reduceEqDiff, Nat.reduceAdd, Bool.not_true, Bool.not_false, List.getElem?_cons_zero, List.getElem?_cons_succ, decide_true, decide_false, Bool.false_eq_true]
  intro h3 S3 w3 s3 f3 n3
  rw [hf gs] at w3
  have mm : mt ∈ Sp 6 := q.told.mem
  have f03 : Fr (Sp 6) h h3 := ((f1.mono (fun k hk => by simp at hk; subst hk; exact mm)).trans f2 (fun k hk => .inl ((hS k).2 (.inl hk)))).trans f3 (fun k hk => by simp at hk; subst hk; exact .inl mm)
  have hs3 : ∀ k ∈ S3, k ∈ Sp 6 ∨ h.next ≤ k := fun k hk => by
    rcases (s3 k).1 hk with g | g
    · rcases s2 k g with g | g
      · exact .inl ((hS k).2 (.inl g))
      · exact .inr (by omega)
    · exact .inl ((hS k).2 (.inr g))
  have q3 := q.setTold f03 w3 hs3
  have u3 : Up h h3 (allS Sp) (allS (set1 Sp 6 S3)) := up_part (by omega) f03 (fun k hk => .inr (.inl hk)) hs3
  have eo3 := f03.at eo (ho 6 (by omega))
  have hR3 := hR h3 _ q3 u3
  have lg : (aGet (acK P i) (aAdd (acK P i) gs P.told)).length ≤ 700000 := by
    rw [aGet_aAdd]
    simp only [List.length_append]
    omega
  generalize hto : aAdd (acK P i) gs P.told = to' at *
  have l5' : loadV h3 false 1 (.ptr p 0 5) = some (.map mt) := ld0 q3.obj rfl
  have l4' : loadV h3 false 1 (.ptr p 0 4) = some (.map ms) := ld0 q3.obj rfl
  have lk' : loadV h3 true 3 (.ptr o 0 0) = some (keyV (acK P i)) := ldA eo3 rfl
  simp only [go_sem, true_and, and_true, ↓reduceIte, Nat.reduceEqDiff, Nat.reduceAdd, Bool.not_true, Bool.not_false, List.getElem?_cons_zero, List.getElem?_cons_succ, decide_true, decide_false, Bool.false_eq_true, a0, a12, l5', lk']
  refine go_lookA (es := to') (k := acK P i) q3.told ?_ ?_ ?_
  · simp only [go_sem, true_and, and_true, ↓reduceIte, Nat.reduceEqDiff, Nat.reduceAdd, Bool.not_true, Bool.not_false, List.getElem?_cons_zero, List.getElem?_cons_succ, decide_true, decide_false, Bool.false_eq_true]
  · simp only [go_sem, true_and, and_true, ↓reduceIte, Nat.reduceEqDiff, Nat.reduceAdd, Bool.not_true, Bool.not_false, List.getElem?_cons_zero, List.getElem?_cons_succ, decide_true, decide_false, Bool.false_eq_true]
  intro v4 S4 r4 _
  have n4 := r4.len
  rw [List.length_map] at n4
  have fe : ∀ b : Bool, b = Pr.fine { P with told := to' } i er → R (.bool b) h3 := fun b e => e ▸ hR3
  have efi : Pr.fine { P with told := to' } i er = (decide (er = 0) && (decide ((aGet (acK P i) to').length ≤ (aGet (acK P i) P.sent).length) && decide (aGet (acK P i) to' = (aGet (acK P i) P.sent).take (aGet (acK P i) to').length))) := rfl
  rw [efi] at fe
  generalize htl : aGet (acK P i) to' = tl at *
  by_cases c1 : er = 0
  · subst c1
    simp only [go_sem, true_and, and_true, ↓reduceIte, Nat.reduceEqDiff, Nat.reduceAdd, Bool.not_true, Bool.not_false, List.getElem?_cons_zero, List.getElem?_cons_succ, decide_true, decide_false, Bool.false_eq_true, n4, a11, a0, a12, l4', lk', BEq.rfl]
    refine go_lookA (es := P.sent) (k := acK P i) q3.sent ?_ ?_ ?_
    · simp only [go_sem, true_and, and_true, ↓reduceIte, Nat.reduceEqDiff, Nat.reduceAdd, Bool.not_true, Bool.not_false, List.getElem?_cons_zero, List.getElem?_cons_succ, decide_true, decide_false, Bool.false_eq_true]
    · simp only [go_sem, true_and, and_true, ↓reduceIte, Nat.reduceEqDiff, Nat.reduceAdd, Bool.not_true, Bool.not_false, List.getElem?_cons_zero, List.getElem?_cons_succ, decide_true, decide_false, Bool.false_eq_true]
    intro v5 S5 r5 _
    have n5 := r5.len
    rw [List.length_map] at n5
    generalize hsl : aGet (acK P i) P.sent = sl at *
    by_cases c2 : tl.length ≤ sl.length
    · have c2' : (tl.length : Int) ≤ (sl.length : Int) := by omega
      simp only [go_sem, true_and, and_true, ↓reduceIte, Nat.reduceEqDiff, Nat.reduceAdd, Bool.not_true, Bool.not_false, List.getElem?_cons_zero, List.getElem?_cons_succ, decide_true, decide_false, Bool.false_eq_true, n4, n5, c2', a0, a12, l5', lk']
      refine go_lookA (es := to') (k := acK P i) q3.told ?_ ?_ ?_
      · simp only [go_sem, true_and, and_true, ↓reduceIte, Nat.reduceEqDiff, Nat.reduceAdd, Bool.not_true, Bool.not_false, List.getElem?_cons_zero, List.getElem?_cons_succ, decide_true, decide_false, Bool.false_eq_true]
      · simp only [go_sem, true_and, and_true, ↓reduceIte, Nat.reduceEqDiff, Nat.reduceAdd, Bool.not_true, Bool.not_false, List.getElem?_cons_zero, List.getElem?_cons_succ, decide_true, decide_false, Bool.false_eq_true]
      intro v6 S6 r6 _
      rw [htl] at r6
      simp only [go_sem, true_and, and_true, ↓reduceIte, Nat.reduceEqDiff, Nat.reduceAdd, Bool.not_true, Bool.not_false, List.getElem?_cons_zero, List.getElem?_cons_succ, decide_true, decide_false, Bool.false_eq_true, a0, a12, l4', lk']
      refine go_lookA (es := P.sent) (k := acK P i) q3.sent ?_ ?_ ?_
      · simp only [go_sem, true_and, and_true, ↓reduceIte, Nat.reduceEqDiff, Nat.reduceAdd, Bool.not_true, Bool.not_false, List.getElem?_cons_zero, List.getElem?_cons_succ, decide_true, decide_false, Bool.false_eq_true]
      · simp only [go_sem, true_and, and_true, ↓reduceIte, Nat.reduceEqDiff, Nat.reduceAdd, Bool.not_true, Bool.not_false, List.getElem?_cons_zero, List.getElem?_cons_succ, decide_true, decide_false, Bool.false_eq_true]
      intro v7 S7 r7 _
      rw [hsl] at r7
      simp only [go_sem, true_and, and_true, ↓reduceIte, Nat.reduceEqDiff, Nat.reduceAdd, Bool.not_true, Bool.not_false, List.getElem?_cons_zero, List.getElem?_cons_succ, decide_true, decide_false, Bool.false_eq_true]
      refine go_slice (v := v7) (l := 0) (n := tl.length) (r7.rs (lb_cells1 _)) ?_ rfl ?_ (Nat.zero_le _) (by simpa using c2) ?_
      · simp only [go_sem, true_and, and_true, ↓reduceIte, Nat.reduceEqDiff, Nat.reduceAdd, Bool.not_true, Bool.not_false, List.getElem?_cons_zero, List.getElem?_cons_succ, decide_true, decide_false, Bool.false_eq_true]
      · simp only [Option.map_some, go_sem, ↓reduceIte, Nat.reduceEqDiff, idx_nat, Option.getD_some]
      intro v8 r8 _ _
      rw [List.drop_zero, ← List.map_take] at r8
      simp only [go_sem, true_and, and_true, ↓reduceIte, Nat.reduceEqDiff, Nat.reduceAdd, Bool.not_true, Bool.not_false, List.getElem?_cons_zero, List.getElem?_cons_succ, decide_true, decide_false, Bool.false_eq_true]
      refine rows_spec _ _ tl (sl.take tl.length) (r6.rs (lb_cells1 _)) r8 (by omega) (by simp; omega) _ ?_
      simp only [go_sem, true_and, and_true, ↓reduceIte, Nat.reduceEqDiff, Nat.reduceAdd, Bool.not_true, Bool.not_false, List.getElem?_cons_zero, List.getElem?_cons_succ, decide_true, decide_false, Bool.false_eq_true]
      exact fe _ (by simp [c2])
    · have c2' : ¬ (tl.length : Int) ≤ (sl.length : Int) := by omega
      simp only [go_sem, true_and, and_true, ↓reduceIte, Nat.reduceEqDiff, Nat.reduceAdd, Bool.not_true, Bool.not_false, List.getElem?_cons_zero, List.getElem?_cons_succ, decide_true, decide_false, Bool.false_eq_true, n4, n5, c2']
      exact fe _ (by simp [c2])
  · have c1' : (er == 0) = false := by simpa using c1
    simp only [go_sem, true_and, and_true, ↓reduceIte, Nat.reduceEqDiff, Nat.reduceAdd, Bool.not_true, Bool.not_false, List.getElem?_cons_zero, List.getElem?_cons_succ, decide_true, decide_false, Bool.false_eq_true, n4, a11, c1']
    exact fe _ (by simp [c1])


theorem szOk_one : ∀ k ∈ [V.int .i64 0, V.int .i64 0, V.int .i64 0], k.one = true := by simp [V.one]

set_option maxHeartbeats 1000000 in
/-- A datagram is taken. -/
theorem take_mid (hG : Nibs G) {i : Nat} {bs : List UInt8} (q : PairP h p P ta bv ms mt Sp) (hi : i < 2) (B : TkB (P.t i)) (hb : bs.length ≤ 1073741824)
    (hl : (aGet (acK (P.got i bs) i) P.told).length ≤ 500000) (hs : (aGet (acK (P.got i bs) i) P.sent).length ≤ 1000000)
    (a0 : a 0 = .ptr p 0 0) (a1 : a 1 = .int .i64 (i : Int)) (a9 : a 9 = lb bs) (R : V → Heap → Prop)
    (hR : ∀ h' Sp', PairP h' p (P.got i bs) ta bv ms mt Sp' → Up h h' (allS Sp) (allS Sp') → R (.bool ((P.got i bs).fine i ((P.t i).take bs).2.2)) h') :
    wpC (Calls0 Tryd.prog G) G [] fn57u2 (postF R [.tmp 8]) a h := by
  have lt : loadV h false 1 (.ptr p 0 i) = some (.ptr (ta i) 0 0) := ld0 q.obj (prC_tun hi)
  simp only [go_sem, true_and, and_true, ↓reduceIte, Nat.reduceEqDiff, Nat.reduceAdd, Bool.not_true, Bool.not_false, List.getElem?_cons_zero, List.getElem?_cons_succ, decide_true, decide_false, Bool.false_eq_true, fn57u2, a0, a1, a9, idx_nat, hi, Nat.mul_one, Nat.zero_add, lt]
  refine clone53 (bs := bs) (by rfl) hb _ ?_
  intro v1 h1 w1
  have f1 := w1.1
  have q1 := q.new f1 (by simp)
  have lt1 : loadV h1 false 1 (.ptr p 0 i) = some (.ptr (ta i) 0 0) := ld0 q1.obj (prC_tun hi)
  simp only [go_sem, true_and, and_true, ↓reduceIte, Nat.reduceEqDiff, Nat.reduceAdd, Bool.not_true, Bool.not_false, List.getElem?_cons_zero, List.getElem?_cons_succ, decide_true, decide_false, Bool.false_eq_true, a0, a1, idx_nat, hi, Nat.mul_one, Nat.zero_add, lt1]
  refine take_spec hG (q1.tun i hi) B.me B.ep B.ex B.el B.sl v1 bs (w1.rs (b8ucells _)) hb _ ?_
  intro v2 h2 S2 Sg t2 u2 r2 sg
  have q2 := q1.setTun' hi u2 t2
  have up2 : Up h1 h2 (allS Sp) (allS (set1 Sp (1 + i) S2)) := up_part (by omega) u2.fr (fun k hk => .inr (.inl hk)) u2.sub
  have sgn : ∀ j, j < 7 → ∀ k ∈ Sg, k ∉ set1 Sp (1 + i) S2 j := fun j hj k hm hk => by
    by_cases e : j = 1 + i
    · subst e
      rw [set1usame] at hk
      exact (sg k hm).2 hk
    · rw [set1une _ _ e] at hk
      have := q1.lt j hj k hk
      have := (sg k hm).1
      omega
  have up3 : Up h h2 (allS Sp) (allS (set1 Sp (1 + i) S2)) := by
    have u1 : Up h h1 (allS Sp) (allS Sp) := ⟨f1.mono (by simp), fun _ hk => .inl hk⟩
    exact u1.trans up2
  generalize set1 Sp (1 + i) S2 = Sp2 at *
  have hgot : P.got i bs = { P with t := set1 P.t i ((P.t i).take bs).1, told := aAdd (acK (P.got i bs) i) ((P.t i).take bs).2.1 P.told } := by
    unfold Pr.got acK
    simp only [set1usame]
  have hk : acK { P with t := set1 P.t i ((P.t i).take bs).1 } i = acK (P.got i bs) i := rfl
  have hgl := take_got (P.t i) bs
  have hel := B.el
  rw [hgot] at hR
  rw [← hgot] at hR
  have hme : (set1 P.t i ((P.t i).take bs).1 i).me > 0 := by rw [set1usame, take_me]; exact B.me
  have hR' : ∀ h' Sp', PairP h' p { { P with t := set1 P.t i ((P.t i).take bs).1 } with told := aAdd (acK (P.got i bs) i) ((P.t i).take bs).2.1 P.told } ta bv ms mt Sp' → Up h h' (allS Sp) (allS Sp') → R (.bool (Pr.fine { { P with t := set1 P.t i ((P.t i).take bs).1 } with told := aAdd (acK (P.got i bs) i) ((P.t i).take bs).2.1 P.told } i ((P.t i).take bs).2.2)) h' := by
    intro h' Sp' x y
    have := hR h' Sp' (by rw [hgot]; exact x) y
    rw [hgot] at this
    exact this
  rw [← hk] at hR' hl hs
  generalize hP2 : { P with t := set1 P.t i ((P.t i).take bs).1 } = P2 at *
  have hl2 : (aGet (acK P2 i) P2.told).length ≤ 500000 := by rw [← hP2] at hl ⊢; exact hl
  have hs2 : (aGet (acK P2 i) P2.sent).length ≤ 1000000 := by rw [← hP2] at hs ⊢; exact hs
  have hme2 : (P2.t i).me > 0 := by rw [← hP2]; exact hme
  have hto : P.told = P2.told := by rw [← hP2]
  rw [hto] at hR'
  clear hR hgot hk hme hl hs
  have lt3 : loadV h2 false 1 (.ptr p 0 i) = some (.ptr (ta i) 0 0) := ld0 q2.obj (prC_tun hi)
  obtain ⟨wv, qv, ev, ov, So, Sm, pT, hS⟩ := q2.tun i hi
  -- whatever the order: the key lies at a new place
  have fin : ∀ (a' : Tm) (h4 : Heap), Fr [] h2 h4 → h4.obj h2.next = some (.arr 39 3 [keyV (acK P2 i)]) → a' 0 = .ptr p 0 0 → a' 10 = v2 → a' 11 = .int .i64 ((P.t i).take bs).2.2 → a' 12 = .ptr h2.next 0 0 →
      wpC (Calls0 Tryd.prog G) G [] fn57u1 (postF R [.tmp 8]) a' h4 := by
    intro a' h4 f4 e4 b0 b10 b11 b12
    have q4 := q2.new f4 (by simp)
    refine take_end q4 hi e4 (fun j hj hm => by have := q2.lt j hj _ hm; omega) (by omega) hl2 hs2 (by omega) b0 (r2.new f4 (by simp)) sgn b10 b11 b12 R ?_
    intro h5 Sp5 q5 u5
    refine hR' h5 Sp5 q5 ?_
    have u4 : Up h2 h4 (allS Sp2) (allS Sp2) := ⟨f4.mono (by simp), fun _ hk => .inl hk⟩
    exact (up3.trans u4).trans u5
  have bx : ∀ {ins : Ins} {K : Tm → Heap → Prop} {a' : Tm}, (∀ h4, Fr [] h2 h4 → h4.obj h2.next = some (.arr 39 3 [.agg [.int .i64 0, .int .i64 0, .int .i64 0]]) → loadV h4 false 1 (.ptr p 0 i) = some (.ptr (ta i) 0 0) → TunP h4 (ta i) (P2.t i) wv qv ev ov So Sm → putD G [] ins K a' (.ptr h2.next 0 0) h4) →
      goO G [] ins K a' (stepI G a' h2 (.box 39 3 (.c (.agg [.int .i64 0, .int .i64 0, .int .i64 0])))) := by
    intro ins K a' hk
    refine go_box (v := .agg [.int .i64 0, .int .i64 0, .int .i64 0]) rfl rfl rfl ?_
    intro h4 f4 e4
    exact hk h4 f4 e4 (ld0 (q2.new f4 (by simp)).obj (prC_tun hi)) (pT.new f4 (by simp))
  have st : ∀ {ins : Ins} {K : Tm → Heap → Prop} {a' : Tm} {h4 : Heap} {y : Opd} {x : Opd}, Fr [] h2 h4 → h4.obj h2.next = some (.arr 39 3 [.agg [.int .i64 0, .int .i64 0, .int .i64 0]]) → x.ev G a' = .ptr h2.next 0 0 → y.ev G a' = keyV (acK P2 i) → (∀ h5, Fr [] h2 h5 → h5.obj h2.next = some (.arr 39 3 [keyV (acK P2 i)]) → putD G [] ins K a' .undef h5) →
      goO G [] ins K a' (stepI G a' h4 (.store 3 x y)) := by
    intro ins K a' h4 y x f4 e4 hx hy hk
    refine go_storeA (ds := [.int .i64 (P2.t i).you, .int .i64 (P2.t i).me, .int .i64 (i : Int)]) e4 hx hy rfl rfl (by simp [V.one]) ?_
    intro h5 f5 n5 e5
    exact hk h5 (f4.trans f5 (fun k hk => by simp at hk; exact .inr (by omega))) e5
  simp only [go_sem, true_and, and_true, ↓reduceIte, Nat.reduceEqDiff, Nat.reduceAdd, Bool.not_true, Bool.not_false, List.getElem?_cons_zero, List.getElem?_cons_succ, decide_true, decide_false, Bool.false_eq_true, a0, a1, idx_nat, hi, Nat.mul_one, Nat.zero_add, lt3]
  refine ⟨?_, ?_⟩
  · refine you_spec pT hme2 _ ?_
    simp only [go_sem, true_and, and_true, ↓reduceIte, Nat.reduceEqDiff, Nat.reduceAdd, Bool.not_true, Bool.not_false, List.getElem?_cons_zero, List.getElem?_cons_succ, decide_true, decide_false, Bool.false_eq_true, lt3, Option.map_some]
    refine ⟨?_, ?_⟩
    · refine me_spec pT hme2 _ ?_
      simp only [go_sem, true_and, and_true, ↓reduceIte, Nat.reduceEqDiff, Nat.reduceAdd, Bool.not_true, Bool.not_false, List.getElem?_cons_zero, List.getElem?_cons_succ, decide_true, decide_false, Bool.false_eq_true]
      refine go_build (cs := [.int .i64 (P2.t i).you, .int .i64 (P2.t i).me, .int .i64 (i : Int)]) rfl ?_
      simp only [go_sem, true_and, and_true, ↓reduceIte, Nat.reduceEqDiff, Nat.reduceAdd, Bool.not_true, Bool.not_false, List.getElem?_cons_zero, List.getElem?_cons_succ, decide_true, decide_false, Bool.false_eq_true]
      refine bx ?_
      intro h4 f4 e4 l4 p4
      simp only [go_sem, true_and, and_true, ↓reduceIte, Nat.reduceEqDiff, Nat.reduceAdd, Bool.not_true, Bool.not_false, List.getElem?_cons_zero, List.getElem?_cons_succ, decide_true, decide_false, Bool.false_eq_true, l4, Option.map_some]
      refine st f4 e4 rfl rfl ?_
      intro h5 f5 e5
      simp only [go_sem, true_and, and_true, ↓reduceIte, Nat.reduceEqDiff, Nat.reduceAdd, Bool.not_true, Bool.not_false, List.getElem?_cons_zero, List.getElem?_cons_succ, decide_true, decide_false, Bool.false_eq_true]
      refine fin _ h5 f5 e5 ?_ ?_ ?_ ?_
      · simp only [go_sem, true_and, and_true, ↓reduceIte, Nat.reduceEqDiff, Nat.reduceAdd, Bool.not_true, Bool.not_false, List.getElem?_cons_zero, List.getElem?_cons_succ, decide_true, decide_false, Bool.false_eq_true, a0]
      · simp only [go_sem, true_and, and_true, ↓reduceIte, Nat.reduceEqDiff, Nat.reduceAdd, Bool.not_true, Bool.not_false, List.getElem?_cons_zero, List.getElem?_cons_succ, decide_true, decide_false, Bool.false_eq_true]
      · simp only [go_sem, true_and, and_true, ↓reduceIte, Nat.reduceEqDiff, Nat.reduceAdd, Bool.not_true, Bool.not_false, List.getElem?_cons_zero, List.getElem?_cons_succ, decide_true, decide_false, Bool.false_eq_true]
      · simp only [go_sem, true_and, and_true, ↓reduceIte, Nat.reduceEqDiff, Nat.reduceAdd, Bool.not_true, Bool.not_false, List.getElem?_cons_zero, List.getElem?_cons_succ, decide_true, decide_false, Bool.false_eq_true]
    · refine bx ?_
      intro h4 f4 e4 l4 p4
      simp only [go_sem, true_and, and_true, ↓reduceIte, Nat.reduceEqDiff, Nat.reduceAdd, Bool.not_true, Bool.not_false, List.getElem?_cons_zero, List.getElem?_cons_succ, decide_true, decide_false, Bool.false_eq_true, l4, Option.map_some]
      refine me_spec p4 hme2 _ ?_
      simp only [go_sem, true_and, and_true, ↓reduceIte, Nat.reduceEqDiff, Nat.reduceAdd, Bool.not_true, Bool.not_false, List.getElem?_cons_zero, List.getElem?_cons_succ, decide_true, decide_false, Bool.false_eq_true]
      refine go_build (cs := [.int .i64 (P2.t i).you, .int .i64 (P2.t i).me, .int .i64 (i : Int)]) rfl ?_
      simp only [go_sem, true_and, and_true, ↓reduceIte, Nat.reduceEqDiff, Nat.reduceAdd, Bool.not_true, Bool.not_false, List.getElem?_cons_zero, List.getElem?_cons_succ, decide_true, decide_false, Bool.false_eq_true]
      refine st f4 e4 rfl rfl ?_
      intro h5 f5 e5
      simp only [go_sem, true_and, and_true, ↓reduceIte, Nat.reduceEqDiff, Nat.reduceAdd, Bool.not_true, Bool.not_false, List.getElem?_cons_zero, List.getElem?_cons_succ, decide_true, decide_false, Bool.false_eq_true]
      refine fin _ h5 f5 e5 ?_ ?_ ?_ ?_
      · simp only [go_sem, true_and, and_true, ↓reduceIte, Nat.reduceEqDiff, Nat.reduceAdd, Bool.not_true, Bool.not_false, List.getElem?_cons_zero, List.getElem?_cons_succ, decide_true, decide_false, Bool.false_eq_true, a0]
      · simp only [go_sem, true_and, and_true, ↓reduceIte, Nat.reduceEqDiff, Nat.reduceAdd, Bool.not_true, Bool.not_false, List.getElem?_cons_zero, List.getElem?_cons_succ, decide_true, decide_false, Bool.false_eq_true]
      · simp only [go_sem, true_and, and_true, ↓reduceIte, Nat.reduceEqDiff, Nat.reduceAdd, Bool.not_true, Bool.not_false, List.getElem?_cons_zero, List.getElem?_cons_succ, decide_true, decide_false, Bool.false_eq_true]
      · simp only [go_sem, true_and, and_true, ↓reduceIte, Nat.reduceEqDiff, Nat.reduceAdd, Bool.not_true, Bool.not_false, List.getElem?_cons_zero, List.getElem?_cons_succ, decide_true, decide_false, Bool.false_eq_true]
  · refine bx ?_
    intro h4 f4 e4 l4 p4
    simp only [go_sem, true_and, and_true, ↓reduceIte, Nat.reduceEqDiff, Nat.reduceAdd, Bool.not_true, Bool.not_false, List.getElem?_cons_zero, List.getElem?_cons_succ, decide_true, decide_false, Bool.false_eq_true, l4, Option.map_some]
    refine you_spec p4 hme2 _ ?_
    simp only [go_sem, true_and, and_true, ↓reduceIte, Nat.reduceEqDiff, Nat.reduceAdd, Bool.not_true, Bool.not_false, List.getElem?_cons_zero, List.getElem?_cons_succ, decide_true, decide_false, Bool.false_eq_true, l4, Option.map_some]
    refine me_spec p4 hme2 _ ?_
    simp only [go_sem, true_and, and_true, ↓reduceIte, Nat.reduceEqDiff, Nat.reduceAdd, Bool.not_true, Bool.not_false, List.getElem?_cons_zero, List.getElem?_cons_succ, decide_true, decide_false, Bool.false_eq_true]
    refine go_build (cs := [.int .i64 (P2.t i).you, .int .i64 (P2.t i).me, .int .i64 (i : Int)]) rfl ?_
    simp only [go_sem, true_and, and_true, ↓reduceIte, Nat.reduceEqDiff, Nat.reduceAdd, Bool.not_true, Bool.not_false, List.getElem?_cons_zero, List.getElem?_cons_succ, decide_true, decide_false, Bool.false_eq_true]
    refine st f4 e4 rfl rfl ?_
    intro h5 f5 e5
    simp only [go_sem, true_and, and_true, ↓reduceIte, Nat.reduceEqDiff, Nat.reduceAdd, Bool.not_true, Bool.not_false, List.getElem?_cons_zero, List.getElem?_cons_succ, decide_true, decide_false, Bool.false_eq_true]
    refine fin _ h5 f5 e5 ?_ ?_ ?_ ?_
    · simp only [go_sem, true_and, and_true, ↓reduceIte, Nat.reduceEqDiff, Nat.reduceAdd, Bool.not_true, Bool.not_false, List.getElem?_cons_zero, List.getElem?_cons_succ, decide_true, decide_false, Bool.false_eq_true, a0]
    · simp only [go_sem, true_and, and_true, ↓reduceIte, Nat.reduceEqDiff, Nat.reduceAdd, Bool.not_true, Bool.not_false, List.getElem?_cons_zero, List.getElem?_cons_succ, decide_true, decide_false, Bool.false_eq_true]
    · simp only [go_sem, true_and, and_true, ↓reduceIte, Nat.reduceEqDiff, Nat.reduceAdd, Bool.not_true, Bool.not_false, List.getElem?_cons_zero, List.getElem?_cons_succ, decide_true, decide_false, Bool.false_eq_true]
    · simp only [go_sem, true_and, and_true, ↓reduceIte, Nat.reduceEqDiff, Nat.reduceAdd, Bool.not_true, Bool.not_false, List.getElem?_cons_zero, List.getElem?_cons_succ, decide_true, decide_false, Bool.false_eq_true]

end Go.Am

/- The pair: take, as a whole. -/
namespace Go.Am
open Go.Proofs
variable {G : Nat → V} {h h' h'' : Heap} {fz : List Nat} {a : Tm} {K : Tm → Heap → Prop}
variable {p : Nat} {P : Pr} {ta : Nat → Nat} {bv : Nat → V} {ms mt : Nat} {Sp : Nat → List Nat}

theorem take1ut (P : Pr) (i n : Nat) (s : Bool) : (P.take1 i n s).t = P.t := by cases s <;> rfl
theorem take1usent (P : Pr) (i n : Nat) (s : Bool) : (P.take1 i n s).sent = P.sent := by cases s <;> rfl
theorem take1utold (P : Pr) (i n : Nat) (s : Bool) : (P.take1 i n s).told = P.told := by cases s <;> rfl

/-- One datagram of a bag is taken (or taken and left there). -/
theorem ptake_spec (hG : Nibs G) {i n : Nat} {stay : Bool} (q : PairP h p P ta bv ms mt Sp) (hi : i < 2) (hn : n < (P.bag i).length) (hbl : (P.bag i).length ≤ 100000) (B : TkB (P.t i)) (hb : ∀ b ∈ P.bag i, b.length ≤ 1073741824)
    (hl : ∀ k, (aGet k P.told).length ≤ 500000) (hs : ∀ k, (aGet k P.sent).length ≤ 1000000) (R : V → Heap → Prop)
    (hR : ∀ h' bv' Sp', PairP h' p (P.take i n stay).1 ta bv' ms mt Sp' → Up h h' (allS Sp) (allS Sp') → R (.bool (P.take i n stay).2) h') :
    Calls0 Tryd.prog G 57 [.ptr p 0 0, .int .i64 (i : Int), .int .i64 (n : Int), .bool stay] h R := by
  have lt : loadV h false 1 (.ptr p 0 (2 + i)) = some (bv i) := ld0 q.obj (prC_bag hi)
  have bg := q.bag i hi
  have rs := bg.rs (lb_cells1 _)
  have hgd : (P.bag i).getD n [] = (P.bag i)[n] := by simp [List.getD, List.getElem?_eq_getElem hn]
  have hbn : ((P.bag i)[n]).length ≤ 1073741824 := hb _ (List.getElem_mem hn)
  refine fn_walk mixed fn57uis [] rfl ?_
  simp only [go_sem, true_and, and_true, ↓reduceIte, Nat.reduceEqDiff, Nat.reduceAdd, Bool.not_true, Bool.not_false, List.getElem?_cons_zero, List.getElem?_cons_succ, decide_true, decide_false, Bool.false_eq_true, fn57, idx_nat, hi, Nat.mul_one, lt]
  refine go_iaddr (k := .i64) (n := n) (e := lb (P.bag i)[n]) (v := bv i) (xs := (P.bag i).map lb) rs ?_ ?_ ?_ ?_
  · simp only [go_sem, true_and, and_true, ↓reduceIte, Nat.reduceEqDiff, Nat.reduceAdd, Bool.not_true, Bool.not_false, List.getElem?_cons_zero, List.getElem?_cons_succ, decide_true, decide_false, Bool.false_eq_true]
  · simp only [go_sem, true_and, and_true, ↓reduceIte, Nat.reduceEqDiff, Nat.reduceAdd, Bool.not_true, Bool.not_false, List.getElem?_cons_zero, List.getElem?_cons_succ, decide_true, decide_false, Bool.false_eq_true]
  · simp [hn]
  intro p1 r1
  have m1 := r1.load1 (e := lb (P.bag i)[n]) rfl
  simp only [go_sem, true_and, and_true, ↓reduceIte, Nat.reduceEqDiff, Nat.reduceAdd, Bool.not_true, Bool.not_false, List.getElem?_cons_zero, List.getElem?_cons_succ, decide_true, decide_false, Bool.false_eq_true, m1]
  cases stay with
  | true =>
    simp only [go_sem, true_and, and_true, ↓reduceIte, Nat.reduceEqDiff, Nat.reduceAdd, Bool.not_true, Bool.not_false, List.getElem?_cons_zero, List.getElem?_cons_succ, decide_true, decide_false, Bool.false_eq_true]
    refine take_mid hG q hi B hbn (hl _) (hs _) ?_ ?_ ?_ R ?_
    · simp only [go_sem, true_and, and_true, ↓reduceIte, Nat.reduceEqDiff, Nat.reduceAdd, Bool.not_true, Bool.not_false, List.getElem?_cons_zero, List.getElem?_cons_succ, decide_true, decide_false, Bool.false_eq_true]
    · simp only [go_sem, true_and, and_true, ↓reduceIte, Nat.reduceEqDiff, Nat.reduceAdd, Bool.not_true, Bool.not_false, List.getElem?_cons_zero, List.getElem?_cons_succ, decide_true, decide_false, Bool.false_eq_true]
    · simp only [go_sem, true_and, and_true, ↓reduceIte, Nat.reduceEqDiff, Nat.reduceAdd, Bool.not_true, Bool.not_false, List.getElem?_cons_zero, List.getElem?_cons_succ, decide_true, decide_false, Bool.false_eq_true]
    intro h' Sp' q' u'
    have := hR h' bv Sp' (by show PairP h' p ((P.take1 i n true).got i ((P.bag i).getD n [])) ta bv ms mt Sp'; rw [hgd]; exact q') u'
    simp only [Pr.take, Pr.take1, if_true, hgd] at this
    exact this
  | false =>
    have w1 : IntKind.i64.wrap ((n : Int) + 1) = ((n + 1 : Nat) : Int) := by rw [wrap64 (by omega) (by omega)]; omega
    simp only [go_sem, true_and, and_true, ↓reduceIte, Nat.reduceEqDiff, Nat.reduceAdd, Bool.not_true, Bool.not_false, List.getElem?_cons_zero, List.getElem?_cons_succ, decide_true, decide_false, Bool.false_eq_true, idx_nat, hi, Nat.mul_one, lt, w1]
    refine clone56 (l := P.bag i) ?_ (by omega) _ ?_
    · exact rs.1
    rintro v2 h2 ⟨f2, S2, r2, s2⟩
    simp only [go_sem, true_and, and_true, ↓reduceIte, Nat.reduceEqDiff, Nat.reduceAdd, Bool.not_true, Bool.not_false, List.getElem?_cons_zero, List.getElem?_cons_succ, decide_true, decide_false, Bool.false_eq_true]
    refine del_spec r2 n hn (by omega) _ ?_
    intro v3 h3 b3 f3 n3
    have q3 := (q.new f2 (by simp)).fr f3 (fun j hj k hk hm => by have := q.lt j hj k hk; have := s2 k hm; omega)
    have u3 : Up h h3 (allS Sp) (allS Sp) := ⟨f2.trans f3 (fun k hk => .inr (s2 k hk)) |>.mono (by simp), fun _ hk => .inl hk⟩
    simp only [go_sem, true_and, and_true, ↓reduceIte, Nat.reduceEqDiff, Nat.reduceAdd, Bool.not_true, Bool.not_false, List.getElem?_cons_zero, List.getElem?_cons_succ, decide_true, decide_false, Bool.false_eq_true, idx_nat, hi, Nat.mul_one]
    refine lose_store (h0 := h) q3 hi (at' := n) b3 (fun k hk j hj hm => by have := q.lt j hj k hm; have := s2 k hk; omega) s2 u3 ?_ ?_ ?_
    · simp only [go_sem, true_and, and_true, ↓reduceIte, Nat.reduceEqDiff, Nat.reduceAdd, Bool.not_true, Bool.not_false, List.getElem?_cons_zero, List.getElem?_cons_succ, decide_true, decide_false, Bool.false_eq_true]
    · simp only [go_sem, true_and, and_true, ↓reduceIte, Nat.reduceEqDiff, Nat.reduceAdd, Bool.not_true, Bool.not_false, List.getElem?_cons_zero, List.getElem?_cons_succ, decide_true, decide_false, Bool.false_eq_true]
    intro h4 bv4 Sp4 q4 u4
    simp only [go_sem, true_and, and_true, ↓reduceIte, Nat.reduceEqDiff, Nat.reduceAdd, Bool.not_true, Bool.not_false, List.getElem?_cons_zero, List.getElem?_cons_succ, decide_true, decide_false, Bool.false_eq_true]
    refine take_mid hG q4 hi B hbn (hl _) (hs _) ?_ ?_ ?_ R ?_
    · simp only [go_sem, true_and, and_true, ↓reduceIte, Nat.reduceEqDiff, Nat.reduceAdd, Bool.not_true, Bool.not_false, List.getElem?_cons_zero, List.getElem?_cons_succ, decide_true, decide_false, Bool.false_eq_true]
    · simp only [go_sem, true_and, and_true, ↓reduceIte, Nat.reduceEqDiff, Nat.reduceAdd, Bool.not_true, Bool.not_false, List.getElem?_cons_zero, List.getElem?_cons_succ, decide_true, decide_false, Bool.false_eq_true]
    · simp only [go_sem, true_and, and_true, ↓reduceIte, Nat.reduceEqDiff, Nat.reduceAdd, Bool.not_true, Bool.not_false, List.getElem?_cons_zero, List.getElem?_cons_succ, decide_true, decide_false, Bool.false_eq_true]
    intro h' Sp' q' u'
    have := hR h' bv4 Sp' (by show PairP h' p ((P.take1 i n false).got i ((P.bag i).getD n [])) ta bv4 ms mt Sp'; rw [hgd]; exact q') (u4.trans u')
    simp only [Pr.take, Pr.take1, hgd, Bool.false_eq_true, if_false] at this
    exact this

end Go.Am

/- The pair: does. -/
namespace Go.Am
open Go.Proofs
variable {G : Nat → V} {h h' h'' : Heap} {fz : List Nat} {a : Tm} {K : Tm → Heap → Prop}
variable {p : Nat} {P : Pr} {ta : Nat → Nat} {bv : Nat → V} {ms mt : Nat} {Sp : Nat → List Nat}

structure Ac1 where
  op : Int
  side : Int
  at' : Int
  b : List UInt8
  stay : Bool
def Ac1.v (A : Ac1) : V := .agg [.int .i64 A.op, .int .i64 A.side, .int .i64 A.at', lb A.b, .bool A.stay]

def opOf (x : Int) : Int := IntKind.i64.wrap ((IntKind.u64.wrap x).tmod 9)
def sideOf (x : Int) : Int := IntKind.i64.wrap (BitVec.ofInt 64 x &&& BitVec.ofInt 64 1).toNat
def atOf (x : Int) (n : Nat) : Int := IntKind.i64.wrap ((IntKind.u64.wrap x).tmod (IntKind.u64.wrap (n : Int)))

theorem u64uwrap (x : Int) : IntKind.u64.wrap x = x % 18446744073709551616 := by
  have e : (2 : Int) ^ IntKind.u64.bits = 18446744073709551616 := by decide
  have s : IntKind.u64.signed = false := rfl
  simp only [IntKind.wrap, e, s, Bool.false_and, Bool.false_eq_true, if_false]
theorem u64unn (x : Int) : 0 ≤ IntKind.u64.wrap x := by
  rw [u64uwrap]
  exact Int.emod_nonneg _ (by decide)
theorem opOf_lt (x : Int) : 0 ≤ opOf x ∧ opOf x < 9 := by
  unfold opOf
  have h1 := u64unn x
  rw [Int.tmod_eq_emod_of_nonneg h1]
  rw [wrap64 (by omega) (by omega)]
  omega
theorem sideOf_01 (x : Int) : sideOf x = 0 ∨ sideOf x = 1 := by
  unfold sideOf
  have : (BitVec.ofInt 64 x &&& BitVec.ofInt 64 1).toNat < 2 := by
    rw [BitVec.toNat_and]
    have : (BitVec.ofInt 64 1).toNat = 1 := by decide
    rw [this, Nat.and_one_is_mod]
    omega
  rw [wrap64 (by omega) (by omega)]
  omega
theorem atOf_lt (x : Int) {n : Nat} (h0 : 0 < n) (h1 : n ≤ 1000000) : 0 ≤ atOf x n ∧ atOf x n < n := by
  unfold atOf
  have h2 := u64unn x
  rw [Int.tmod_eq_emod_of_nonneg h2, u64uwrap (n : Int)]
  have e : (n : Int) % 18446744073709551616 = n := by omega
  rw [e]
  have a1 := Int.emod_nonneg (IntKind.u64.wrap x) (b := (n : Int)) (by omega)
  have a2 := Int.emod_lt_of_pos (IntKind.u64.wrap x) (b := (n : Int)) (by omega)
  rw [wrap64 (by omega) (by omega)]
  omega
def Ac1.i (A : Ac1) : Nat := (sideOf A.side).toNat

theorem Ac1.i_lt (A : Ac1) : A.i < 2 := by have := sideOf_01 A.side; unfold Ac1.i; omega
theorem Ac1.i_eq (A : Ac1) : sideOf A.side = (A.i : Int) := by have := sideOf_01 A.side; unfold Ac1.i; omega
def Ac1.o (A : Ac1) : Int := opOf A.op
def Ac1.n (A : Ac1) (P : Pr) : Nat := (atOf A.at' (P.bag A.i).length).toNat

def Pr.turn (P : Pr) (i : Nat) (T : Tn) : Pr := { P with t := set1 P.t i T }
def Pr.sends (P : Pr) (i : Nat) (b : List UInt8) : Pr :=
  if ((P.t i).send b).2 = 0 then { P.turn i ((P.t i).send b).1 with sent := aAdd (((P.t i).send b).1.me, ((P.t i).send b).1.you, ((1 - i : Nat) : Int)) [b] P.sent } else P.turn i ((P.t i).send b).1
/-- An act, before both say. -/
def Pr.act (P : Pr) (A : Ac1) : Pr × Bool :=
  if A.o = 3 then (P.sends A.i A.b, true)
  else if A.o = 4 ∨ A.o = 5 then (P.turn A.i (P.t A.i).tick, true)
  else if A.o = 7 then (P.turn A.i (Tn.fresh ((P.t A.i).me + 100)), true)
  else if A.o = 8 then (P.turn A.i ((P.t A.i).hint (P.t (1 - A.i)).me), true)
  else if (P.bag A.i).length = 0 then (P, true)
  else if A.o = 6 then (P.lose A.i (A.n P), true)
  else P.take A.i (A.n P) A.stay
def Pr.does (P : Pr) (A : Ac1) : Pr × Bool := ((P.act A).1.outs, (P.act A).2)

/-- What an act asks for of a tunnel. -/
structure DoT (T : Tn) : Prop where
  me : 0 < T.me ∧ T.me ≤ 1000000000
  ep : 0 ≤ T.epoch ∧ T.epoch ≤ 1000000000
  ti : 0 ≤ T.ticks ∧ T.ticks ≤ 1000000000
  si : 0 ≤ T.silence ∧ T.silence ≤ 1000000000
  ex : 0 ≤ T.expect ∧ T.expect ≤ 1099511627776
  el : T.early.length ≤ 100000
  nx : 0 ≤ T.next ∧ T.next + T.queue.length ≤ 1000000000
  wa : ∀ s ∈ T.way, (0 ≤ s.1 ∧ s.1 ≤ 1099511627776) ∧ (0 ≤ s.2.2 ∧ s.2.2 ≤ 1099511627776)
  wl : T.queue.length + T.way.length ≤ 1000
  ol : T.out.length ≤ 1000
  bl : ∀ b ∈ T.queue, b.length ≤ 1048576
theorem DoT.sl {T : Tn} (d : DoT T) : SlB T :=
  ⟨d.nx.1, by have := d.nx.2; omega, fun s hs => (d.wa s hs).1, by have := d.wl; omega, by have := d.wl; have := d.ol; omega, d.bl⟩
theorem DoT.sl' {T : Tn} (d : DoT T) {b : List UInt8} (hb : b.length ≤ 512) : SlB (T.wait b) := by
  have w := d.wl
  have n := d.nx
  have o := d.ol
  refine ⟨d.nx.1, ?_, fun s hs => (d.wa s hs).1, ?_, ?_, ?_⟩
  · simp only [Tn.wait, List.length_append, List.length_singleton]; omega
  · simp only [Tn.wait, List.length_append, List.length_singleton]; omega
  · simp only [Tn.wait, List.length_append, List.length_singleton]; omega
  · intro x hx
    simp only [Tn.wait, List.mem_append, List.mem_singleton] at hx
    rcases hx with hx | rfl
    · exact d.bl x hx
    · omega
theorem DoT.tk {T : Tn} (d : DoT T) : TkB T := ⟨d.me.1, by have := d.ep; omega, d.ex, d.el, d.sl⟩

/-- What an act asks for of a pair. -/
structure DoB (P : Pr) : Prop where
  t : ∀ i, i < 2 → DoT (P.t i)
  bag : ∀ i, i < 2 → (P.bag i).length ≤ 200 ∧ ∀ b ∈ P.bag i, b.length ≤ 1048576
  sent : ∀ k, (aGet k P.sent).length ≤ 400000
  told : ∀ k, (aGet k P.told).length ≤ 400000
/-- What both saying asks for. -/
def OuB (P : Pr) : Prop := ∀ i, i < 2 → (P.t i).me > 0 ∧ (P.t i).out.length ≤ 1000000 ∧ (P.bag i).length ≤ 1000

theorem does_end {ok : Bool} (q : PairP h p P ta bv ms mt Sp) (B : OuB P) (a0 : a 0 = .ptr p 0 0) (a7 : a 7 = .bool ok) (R : V → Heap → Prop)
    (hR : ∀ h' ta' bv' Sp', PairP h' p P.outs ta' bv' ms mt Sp' → Up h h' (allS Sp) (allS Sp') → R (.bool ok) h') :
    wpC (Calls0 Tryd.prog G) G [91] fn15u2 (postF R [.tmp 4]) a h := by
  simp only [go_sem, true_and, and_true, ↓reduceIte, Nat.reduceEqDiff, Nat.reduceAdd, Bool.not_true, Bool.not_false, List.getElem?_cons_zero, List.getElem?_cons_succ, decide_true, decide_false, Bool.false_eq_true, fn15u2, a0]
  refine outs_spec q (fun i hi => (B i hi).1) (fun i hi => (B i hi).2.1) (fun i hi => (B i hi).2.2) _ ?_
  intro h1 bv1 Sp1 q1 u1
  simp only [go_sem, true_and, and_true, ↓reduceIte, Nat.reduceEqDiff, Nat.reduceAdd, Bool.not_true, Bool.not_false, List.getElem?_cons_zero, List.getElem?_cons_succ, decide_true, decide_false, Bool.false_eq_true, a7]
  exact hR h1 ta bv1 Sp1 q1 u1

theorem frz_freshR {d ty sz : Nat} {xs : List V} {v : V} {rr : List (Option (Nat × Bool) × Nat × I)} (w : Fresh h h' ty sz xs v) (hk : ∀ h'', Fr [] h h'' → rrOk G a h'' rr ∧ K (upd a d (.lst xs)) h'') : frzD G K a d rr v h' := by
  obtain ⟨h'', e, f⟩ := w.freeze
  simp only [frzD, e]
  exact hk h'' f
theorem send_ok {T : Tn} {b : List UInt8} (h : (T.send b).2 = 0) : b.length ≤ 512 ∧ T.up = true := by
  unfold Tn.send at h
  split at h
  · simp at h
  · split at h
    · simp at h
    · rename_i c1 c2
      exact ⟨by omega, by simpa using c1⟩
theorem send_me (T : Tn) (b : List UInt8) : (T.send b).1.me = T.me := by
  unfold Tn.send
  split
  · rfl
  · split
    · rfl
    · split
      · rfl
      · exact (slideGo_keep _ _).1

set_option maxHeartbeats 1000000 in
theorem does_spec (hG : Nibs G) (A : Ac1) (q : PairP h p P ta bv ms mt Sp) (B : DoB P) (O : OuB (P.act A).1) (R : V → Heap → Prop)
    (hR : ∀ h' ta' bv' Sp', PairP h' p (P.does A).1 ta' bv' ms mt Sp' → Up h h' (allS Sp) (allS Sp') → R (.bool (P.does A).2) h') :
    Calls0 Tryd.prog G 15 [.ptr p 0 0, A.v] h R := by
  refine fn_walk mixed fn15uis [91] rfl ?_
  have hi := A.i_lt
  have hj : 1 - A.i < 2 := by omega
  have D := B.t A.i hi
  obtain ⟨o0, o9⟩ := opOf_lt A.op
  have od : (9 : Int) ≠ 0 := by decide
  have oe : IntKind.i64.wrap ((IntKind.u64.wrap A.op).tmod 9) = A.o := rfl
  have se : binV .and (.int .i64 A.side) (.int .i64 1) = some (.int .i64 (A.i : Int)) := by rw [← A.i_eq]; rfl
  simp only [go_sem, true_and, and_true, ↓reduceIte, Nat.reduceEqDiff, Nat.reduceAdd, Bool.not_true, Bool.not_false, List.getElem?_cons_zero, List.getElem?_cons_succ, decide_true, decide_false, Bool.false_eq_true, Option.some.injEq, V.int.injEq] at se
  simp only [go_sem, true_and, and_true, ↓reduceIte, Nat.reduceEqDiff, Nat.reduceAdd, Bool.not_true, Bool.not_false, List.getElem?_cons_zero, List.getElem?_cons_succ, decide_true, decide_false, Bool.false_eq_true, fn15]
  refine go_box (v := A.v) rfl rfl rfl ?_
  intro h1 f1 e1
  have q1 := q.new f1 (by simp)
  have u1 : Up h h1 (allS Sp) (allS Sp) := ⟨f1.mono (by simp), fun _ hk => .inl hk⟩
  have b0 : loadV h1 false 1 (.ptr h.next 0 0) = some (.int .i64 A.op) := ld0 e1 rfl
  have b1 : loadV h1 false 1 (.ptr h.next 0 1) = some (.int .i64 A.side) := ld0 e1 rfl
  have b2 : loadV h1 false 1 (.ptr h.next 0 2) = some (.int .i64 A.at') := ld0 e1 rfl
  have b3 : loadV h1 false 1 (.ptr h.next 0 3) = some (lb A.b) := ld0 e1 rfl
  have b4 : loadV h1 false 1 (.ptr h.next 0 4) = some (.bool A.stay) := ld0 e1 rfl
  have lt : loadV h1 false 1 (.ptr p 0 A.i) = some (.ptr (ta A.i) 0 0) := ld0 q1.obj (prC_tun hi)
  simp only [go_sem, true_and, and_true, ↓reduceIte, Nat.reduceEqDiff, Nat.reduceAdd, Bool.not_true, Bool.not_false, List.getElem?_cons_zero, List.getElem?_cons_succ, decide_true, decide_false, Bool.false_eq_true, b0, b1, se, idx_nat, hi, Nat.mul_one, Nat.zero_add, lt, od, ne_eq, not_false_eq_true, oe]
  have fin : ∀ (Q : Pr × Bool) (a' : Tm) (h2 : Heap) (ta2 : Nat → Nat) (bv2 : Nat → V) (Sp2 : Nat → List Nat), P.act A = Q → PairP h2 p Q.1 ta2 bv2 ms mt Sp2 → Up h h2 (allS Sp) (allS Sp2) → a' 0 = .ptr p 0 0 → a' 7 = .bool Q.2 → wpC (Calls0 Tryd.prog G) G [91] fn15u2 (postF R [.tmp 4]) a' h2 := by
    rintro Q a' h2 ta2 bv2 Sp2 rfl q2 u2 a0 a7
    refine does_end q2 O a0 a7 R ?_
    intro h3 ta3 bv3 Sp3 q3 u3
    exact hR h3 ta3 bv3 Sp3 q3 (u2.trans u3)
  have nb : ∀ {n : Int}, A.o ≠ n → (A.o == n) = false := fun hn => by simpa using hn
  have eb : ∀ {n : Int}, A.o = n → (A.o == n) = true := fun hn => by simpa using hn
  by_cases c3 : A.o = 3
  · simp only [go_sem, true_and, and_true, ↓reduceIte, Nat.reduceEqDiff, Nat.reduceAdd, Bool.not_true, Bool.not_false, List.getElem?_cons_zero, List.getElem?_cons_succ, decide_true, decide_false, Bool.false_eq_true, eb c3, b3]
    refine send_spec hG (q1.tun A.i hi) D.me.1 (by have := D.wl; unfold Tn.waiting; omega) _ A.b (lb_rs A.b) (fun _ hb _ => D.sl' hb) _ ?_
    intro h2 S2 t2 u2
    have q2 := q1.setTun' hi u2 t2
    have up2 : Up h1 h2 (allS Sp) (allS (set1 Sp (1 + A.i) S2)) := up_part (by omega) u2.fr (fun k hk => .inr (.inl hk)) u2.sub
    have ha : P.act A = (P.sends A.i A.b, true) := by unfold Pr.act; rw [if_pos c3]
    have e2 := u2.fr.at e1 (fun hm => by have := q.lt (1 + A.i) (by omega) _ hm; omega)
    have b3' : loadV h2 false 1 (.ptr h.next 0 3) = some (lb A.b) := ld0 e2 rfl
    have l5 : loadV h2 false 1 (.ptr p 0 4) = some (.map ms) := ld0 q2.obj rfl
    by_cases cs : ((P.t A.i).send A.b).2 = 0
    · have cs' : (((P.t A.i).send A.b).2 == 0) = true := by simpa using cs
      have hsd : P.sends A.i A.b = { P.turn A.i ((P.t A.i).send A.b).1 with sent := aAdd (((P.t A.i).send A.b).1.me, ((P.t A.i).send A.b).1.you, ((1 - A.i : Nat) : Int)) [A.b] P.sent } := by unfold Pr.sends; rw [if_pos cs]
      have hme : ((P.t A.i).send A.b).1.me = (P.t A.i).me := send_me _ _
      have hbl := (send_ok cs).1
      generalize ((P.t A.i).send A.b).1 = T2 at *
      generalize set1 Sp (1 + A.i) S2 = Sp2 at *
      have tt : TunR h2 (ta A.i) T2 (Sp2 (1 + A.i)) := by
        have := q2.tun A.i hi
        simp only [set1usame] at this
        exact this
      have hT2 : T2.me > 0 := by rw [hme]; exact D.me.1
      obtain ⟨wv, qv, ev, ov, So, Sm, pT, hS⟩ := tt
      have w1 : IntKind.i64.wrap (1 - (A.i : Int)) = ((1 - A.i : Nat) : Int) := by rw [wrap64 (by omega) (by omega)]; omega
      simp only [go_sem, true_and, and_true, ↓reduceIte, Nat.reduceEqDiff, Nat.reduceAdd, Bool.not_true, Bool.not_false, List.getElem?_cons_zero, List.getElem?_cons_succ, decide_true, decide_false, Bool.false_eq_true, cs']
      refine me_spec pT hT2 _ ?_
      simp only [go_sem, true_and, and_true, ↓reduceIte, Nat.reduceEqDiff, Nat.reduceAdd, Bool.not_true, Bool.not_false, List.getElem?_cons_zero, List.getElem?_cons_succ, decide_true, decide_false, Bool.false_eq_true]
      refine you_spec pT hT2 _ ?_
      simp only [go_sem, true_and, and_true, ↓reduceIte, Nat.reduceEqDiff, Nat.reduceAdd, Bool.not_true, Bool.not_false, List.getElem?_cons_zero, List.getElem?_cons_succ, decide_true, decide_false, Bool.false_eq_true, w1]
      refine go_build (cs := [.int .i64 T2.me, .int .i64 T2.you, .int .i64 ((1 - A.i : Nat) : Int)]) rfl ?_
      simp only [go_sem, true_and, and_true, ↓reduceIte, Nat.reduceEqDiff, Nat.reduceAdd, Bool.not_true, Bool.not_false, List.getElem?_cons_zero, List.getElem?_cons_succ, decide_true, decide_false, Bool.false_eq_true]
      refine go_box (v := .agg [.int .i64 0, .int .i64 0, .int .i64 0]) rfl rfl rfl ?_
      intro h3 f3 e3
      simp only [go_sem, true_and, and_true, ↓reduceIte, Nat.reduceEqDiff, Nat.reduceAdd, Bool.not_true, Bool.not_false, List.getElem?_cons_zero, List.getElem?_cons_succ, decide_true, decide_false, Bool.false_eq_true]
      refine go_storeA (ds := [.int .i64 T2.me, .int .i64 T2.you, .int .i64 ((1 - A.i : Nat) : Int)]) e3 ?_ ?_ rfl rfl (by simp [V.one]) ?_
      · simp only [go_sem, true_and, and_true, ↓reduceIte, Nat.reduceEqDiff, Nat.reduceAdd, Bool.not_true, Bool.not_false, List.getElem?_cons_zero, List.getElem?_cons_succ, decide_true, decide_false, Bool.false_eq_true]
      · simp only [go_sem, true_and, and_true, ↓reduceIte, Nat.reduceEqDiff, Nat.reduceAdd, Bool.not_true, Bool.not_false, List.getElem?_cons_zero, List.getElem?_cons_succ, decide_true, decide_false, Bool.false_eq_true]
      intro h4 f4 n4 e4
      have f24 : Fr [] h2 h4 := f3.trans f4 (fun k hk => by simp at hk; exact .inr (by omega))
      have q4 := q2.new f24 (by simp)
      have b34 : loadV h4 false 1 (.ptr h.next 0 3) = some (lb A.b) := ld0 (f24.at e2 (by simp)) rfl
      have l5' : loadV h4 false 1 (.ptr p 0 4) = some (.map ms) := ld0 q4.obj rfl
      obtain ⟨ky, hky⟩ : ∃ ky : Ky, ky = (T2.me, T2.you, ((1 - A.i : Nat) : Int)) := ⟨_, rfl⟩
      have lk : loadV h4 true 3 (.ptr h2.next 0 0) = some (keyV ky) := by rw [hky]; exact ldA e4 rfl
      simp only [go_sem, true_and, and_true, ↓reduceIte, Nat.reduceEqDiff, Nat.reduceAdd, Bool.not_true, Bool.not_false, List.getElem?_cons_zero, List.getElem?_cons_succ, decide_true, decide_false, Bool.false_eq_true, l5', lk, b34]
      refine clone53 (bs := A.b) (by rfl) (by omega) _ ?_
      intro v5 h5 w5
      simp only [go_sem, true_and, and_true, ↓reduceIte, Nat.reduceEqDiff, Nat.reduceAdd, Bool.not_true, Bool.not_false, List.getElem?_cons_zero, List.getElem?_cons_succ, decide_true, decide_false, Bool.false_eq_true]
      refine frz_freshR w5 ?_
      intro h6 f6
      have f26 : Fr [] h2 h6 := f24.trans f6 (by simp)
      have q6 := q4.new f6 (by simp)
      have l56 : loadV h6 false 1 (.ptr p 0 4) = some (.map ms) := ld0 q6.obj rfl
      have lk6 : loadV h6 true 3 (.ptr h2.next 0 0) = some (keyV ky) := by rw [hky]; exact ldA (f6.at e4 (by simp)) rfl
      simp only [go_sem, true_and, and_true, ↓reduceIte, Nat.reduceEqDiff, Nat.reduceAdd, Bool.not_true, Bool.not_false, List.getElem?_cons_zero, List.getElem?_cons_succ, decide_true, decide_false, Bool.false_eq_true, l56, lk6, Option.map_some]
      refine go_bslice (xs := [lb A.b]) rfl rfl (by omega) ?_ rfl ?_
      · simp only [go_sem, true_and, and_true, ↓reduceIte, Nat.reduceEqDiff, Nat.reduceAdd, Bool.not_true, Bool.not_false, List.getElem?_cons_zero, List.getElem?_cons_succ, decide_true, decide_false, Bool.false_eq_true]
        rfl
      intro v7 h7 w7 f7
      have q7 := q6.new f7 (by simp)
      have f27 : Fr [] h2 h7 := f26.trans f7 (by simp)
      have l57 : loadV h7 false 1 (.ptr p 0 4) = some (.map ms) := ld0 q7.obj rfl
      have lk7 : loadV h7 true 3 (.ptr h2.next 0 0) = some (keyV ky) := by rw [hky]; exact ldA (f7.at (f6.at e4 (by simp)) (by simp)) rfl
      simp only [go_sem, true_and, and_true, ↓reduceIte, Nat.reduceEqDiff, Nat.reduceAdd, Bool.not_true, Bool.not_false, List.getElem?_cons_zero, List.getElem?_cons_succ, decide_true, decide_false, Bool.false_eq_true, l57, lk7, Option.map_some]
      refine go_mentryA (m := ms) (k := ky) q7.sent ?_ ?_ ?_
      · simp only [go_sem, true_and, and_true, ↓reduceIte, Nat.reduceEqDiff, Nat.reduceAdd, Bool.not_true, Bool.not_false, List.getElem?_cons_zero, List.getElem?_cons_succ, decide_true, decide_false, Bool.false_eq_true]
      · simp only [go_sem, true_and, and_true, ↓reduceIte, Nat.reduceEqDiff, Nat.reduceAdd, Bool.not_true, Bool.not_false, List.getElem?_cons_zero, List.getElem?_cons_succ, decide_true, decide_false, Bool.false_eq_true]
      intro v8 n8 f Sk S1 h8 r8 w8 hf hS hd f8 n8'
      simp only [go_sem, true_and, and_true, ↓reduceIte, Nat.reduceEqDiff, Nat.reduceAdd, Bool.not_true, Bool.not_false, List.getElem?_cons_zero, List.getElem?_cons_succ, decide_true, decide_false, Bool.false_eq_true]
      have hsl := B.sent ky
      have w7' : Own h8 h6.next 27 1 [lb A.b] v7 := w7.fr f8 (by simp; exact fun e => by have := q6.sent.lt _ q7.sent.mem; omega)
      refine go_appendR (ys := [lb A.b]) r8 ?_ ?_ ?_ ?_ rfl ?_
      · simp only [go_sem, true_and, and_true, ↓reduceIte, Nat.reduceEqDiff, Nat.reduceAdd, Bool.not_true, Bool.not_false, List.getElem?_cons_zero, List.getElem?_cons_succ, decide_true, decide_false, Bool.false_eq_true]
      · simp only [go_sem, true_and, and_true, ↓reduceIte, Nat.reduceEqDiff, Nat.reduceAdd, Bool.not_true, Bool.not_false, List.getElem?_cons_zero, List.getElem?_cons_succ, decide_true, decide_false, Bool.false_eq_true]
        exact w7'.read
      · simp only [List.length_map, List.length_singleton]; omega
      · simp only [List.length_map, List.length_singleton]; omega
      intro S9 v9 h9 r9 f9 s9
      simp only [go_sem, true_and, and_true, ↓reduceIte, Nat.reduceEqDiff, Nat.reduceAdd, Bool.not_true, Bool.not_false, List.getElem?_cons_zero, List.getElem?_cons_succ, decide_true, decide_false, Bool.false_eq_true]
      have rr : (aGet ky P.sent).map lb ++ [lb A.b] = (aGet ky P.sent ++ [A.b]).map lb := by simp
      rw [rr] at r9
      have w9 : AccO h9 ms ky n8 f S1 := w8.fr f9 (fun j hj hk => hd j hk hj)
      have d9 : ∀ j ∈ S9, j ∉ S1 := fun j hj hm => by
        rcases s9 j hj with g | g
        · exact hd j g hm
        · have := q7.sent.lt j ((hS j).2 (.inr hm)); omega
      refine go_estoreA w9 r9 d9 ?_ ?_ ?_ ?_
      · simp only [go_sem, true_and, and_true, ↓reduceIte, Nat.reduceEqDiff, Nat.reduceAdd, Bool.not_true, Bool.not_false, List.getElem?_cons_zero, List.getElem?_cons_succ, decide_true, decide_false, Bool.false_eq_true]
      · simp only [go_sem, true_and, and_true, ↓reduceIte, Nat.reduceEqDiff, Nat.reduceAdd, Bool.not_true, Bool.not_false, List.getElem?_cons_zero, List.getElem?_cons_succ, decide_true, decide_false, Bool.false_eq_true]
      · simp only [go_sem, true_and, and_true, ↓reduceIte, Nat.reduceEqDiff, Nat.reduceAdd, Bool.not_true, Bool.not_false, List.getElem?_cons_zero, List.getElem?_cons_succ, decide_true, decide_false, Bool.false_eq_true]
      intro h10 S10 w10 s10 f10 n10
      rw [hf [A.b]] at w10
      have mm : ms ∈ Sp2 5 := q7.sent.mem
      have f710 : Fr (Sp2 5) h7 h10 := ((f8.mono (fun k hk => by simp at hk; subst hk; exact mm)).trans f9 (fun k hk => .inl ((hS k).2 (.inl hk)))).trans f10 (fun k hk => by simp at hk; subst hk; exact .inl mm)
      have hs10 : ∀ k ∈ S10, k ∈ Sp2 5 ∨ h7.next ≤ k := fun k hk => by
        rcases (s10 k).1 hk with g | g
        · rcases s9 k g with g | g
          · exact .inl ((hS k).2 (.inl g))
          · exact .inr (by omega)
        · exact .inl ((hS k).2 (.inr g))
      have q10 := q7.setSent f710 w10 hs10
      have up10 : Up h7 h10 (allS Sp2) (allS (set1 Sp2 5 S10)) := up_part (by omega) f710 (fun k hk => .inr (.inl hk)) hs10
      have up7 : Up h2 h7 (allS Sp2) (allS Sp2) := ⟨f27.mono (by simp), fun _ hk => .inl hk⟩
      simp only [go_sem, true_and, and_true, ↓reduceIte, Nat.reduceEqDiff, Nat.reduceAdd, Bool.not_true, Bool.not_false, List.getElem?_cons_zero, List.getElem?_cons_succ, decide_true, decide_false, Bool.false_eq_true]
      refine fin _ _ h10 ta bv _ ha ?_ (((u1.trans up2).trans up7).trans up10) ?_ ?_
      · rw [hsd, ← hky]
        exact q10
      · simp only [go_sem, true_and, and_true, ↓reduceIte, Nat.reduceEqDiff, Nat.reduceAdd, Bool.not_true, Bool.not_false, List.getElem?_cons_zero, List.getElem?_cons_succ, decide_true, decide_false, Bool.false_eq_true]
      · simp only [go_sem, true_and, and_true, ↓reduceIte, Nat.reduceEqDiff, Nat.reduceAdd, Bool.not_true, Bool.not_false, List.getElem?_cons_zero, List.getElem?_cons_succ, decide_true, decide_false, Bool.false_eq_true]
    · have cs' : (((P.t A.i).send A.b).2 == 0) = false := by simpa using cs
      simp only [go_sem, true_and, and_true, ↓reduceIte, Nat.reduceEqDiff, Nat.reduceAdd, Bool.not_true, Bool.not_false, List.getElem?_cons_zero, List.getElem?_cons_succ, decide_true, decide_false, Bool.false_eq_true, cs']
      refine fin _ _ h2 ta bv _ ha ?_ (u1.trans up2) ?_ ?_
      · unfold Pr.sends
        rw [if_neg cs]
        exact q2
      · simp only [go_sem, true_and, and_true, ↓reduceIte, Nat.reduceEqDiff, Nat.reduceAdd, Bool.not_true, Bool.not_false, List.getElem?_cons_zero, List.getElem?_cons_succ, decide_true, decide_false, Bool.false_eq_true]
      · simp only [go_sem, true_and, and_true, ↓reduceIte, Nat.reduceEqDiff, Nat.reduceAdd, Bool.not_true, Bool.not_false, List.getElem?_cons_zero, List.getElem?_cons_succ, decide_true, decide_false, Bool.false_eq_true]
  have tk : A.o = 4 ∨ A.o = 5 → ∀ (a' : Tm), a' 0 = .ptr p 0 0 → a' 6 = .ptr (ta A.i) 0 0 → a' 7 = .bool true → a' 96 = .bool true → wpC (Calls0 Tryd.prog G) G [91] fn15u1 (blockQ 0 (thenQ (wpC (Calls0 Tryd.prog G) G [91] fn15u2 (postF R [.tmp 4])) (postF R [.tmp 4]))) a' h1 := by
    intro co a' a0 a6 a7 a96
    simp only [go_sem, true_and, and_true, ↓reduceIte, Nat.reduceEqDiff, Nat.reduceAdd, Bool.not_true, Bool.not_false, List.getElem?_cons_zero, List.getElem?_cons_succ, decide_true, decide_false, Bool.false_eq_true, fn15u1, a96, a6]
    have dme := D.me; have dep := D.ep; have dti := D.ti; have dsi := D.si; have dol := D.ol; have dwl := D.wl
    refine tick_spec hG (q1.tun A.i hi) (by omega) (by omega) (by omega) (fun s hs => (D.wa s hs).2) (by omega) (by omega) (by omega) _ ?_
    intro h2 S2 t2 u2
    have q2 := q1.setTun' hi u2 t2
    have up2 : Up h1 h2 (allS Sp) (allS (set1 Sp (1 + A.i) S2)) := up_part (by omega) u2.fr (fun k hk => .inr (.inl hk)) u2.sub
    have ha : P.act A = (P.turn A.i (P.t A.i).tick, true) := by unfold Pr.act; rw [if_neg c3, if_pos co]
    simp only [go_sem, true_and, and_true, ↓reduceIte, Nat.reduceEqDiff, Nat.reduceAdd, Bool.not_true, Bool.not_false, List.getElem?_cons_zero, List.getElem?_cons_succ, decide_true, decide_false, Bool.false_eq_true]
    refine fin _ _ h2 ta bv _ ha q2 (u1.trans up2) ?_ ?_
    · simp only [go_sem, true_and, and_true, ↓reduceIte, Nat.reduceEqDiff, Nat.reduceAdd, Bool.not_true, Bool.not_false, List.getElem?_cons_zero, List.getElem?_cons_succ, decide_true, decide_false, Bool.false_eq_true, a0]
    · simp only [go_sem, true_and, and_true, ↓reduceIte, Nat.reduceEqDiff, Nat.reduceAdd, Bool.not_true, Bool.not_false, List.getElem?_cons_zero, List.getElem?_cons_succ, decide_true, decide_false, Bool.false_eq_true, a7]
  by_cases c4 : A.o = 4
  · simp only [go_sem, true_and, and_true, ↓reduceIte, Nat.reduceEqDiff, Nat.reduceAdd, Bool.not_true, Bool.not_false, List.getElem?_cons_zero, List.getElem?_cons_succ, decide_true, decide_false, Bool.false_eq_true, nb c3, eb c4]
    refine tk (.inl c4) _ ?_ ?_ ?_ ?_
    · simp only [go_sem, true_and, and_true, ↓reduceIte, Nat.reduceEqDiff, Nat.reduceAdd, Bool.not_true, Bool.not_false, List.getElem?_cons_zero, List.getElem?_cons_succ, decide_true, decide_false, Bool.false_eq_true]
    · simp only [go_sem, true_and, and_true, ↓reduceIte, Nat.reduceEqDiff, Nat.reduceAdd, Bool.not_true, Bool.not_false, List.getElem?_cons_zero, List.getElem?_cons_succ, decide_true, decide_false, Bool.false_eq_true]
    · simp only [go_sem, true_and, and_true, ↓reduceIte, Nat.reduceEqDiff, Nat.reduceAdd, Bool.not_true, Bool.not_false, List.getElem?_cons_zero, List.getElem?_cons_succ, decide_true, decide_false, Bool.false_eq_true]
    · simp only [go_sem, true_and, and_true, ↓reduceIte, Nat.reduceEqDiff, Nat.reduceAdd, Bool.not_true, Bool.not_false, List.getElem?_cons_zero, List.getElem?_cons_succ, decide_true, decide_false, Bool.false_eq_true]
  by_cases c5 : A.o = 5
  · simp only [go_sem, true_and, and_true, ↓reduceIte, Nat.reduceEqDiff, Nat.reduceAdd, Bool.not_true, Bool.not_false, List.getElem?_cons_zero, List.getElem?_cons_succ, decide_true, decide_false, Bool.false_eq_true, nb c3, nb c4, eb c5]
    refine tk (.inr c5) _ ?_ ?_ ?_ ?_
    · simp only [go_sem, true_and, and_true, ↓reduceIte, Nat.reduceEqDiff, Nat.reduceAdd, Bool.not_true, Bool.not_false, List.getElem?_cons_zero, List.getElem?_cons_succ, decide_true, decide_false, Bool.false_eq_true]
    · simp only [go_sem, true_and, and_true, ↓reduceIte, Nat.reduceEqDiff, Nat.reduceAdd, Bool.not_true, Bool.not_false, List.getElem?_cons_zero, List.getElem?_cons_succ, decide_true, decide_false, Bool.false_eq_true]
    · simp only [go_sem, true_and, and_true, ↓reduceIte, Nat.reduceEqDiff, Nat.reduceAdd, Bool.not_true, Bool.not_false, List.getElem?_cons_zero, List.getElem?_cons_succ, decide_true, decide_false, Bool.false_eq_true]
    · simp only [go_sem, true_and, and_true, ↓reduceIte, Nat.reduceEqDiff, Nat.reduceAdd, Bool.not_true, Bool.not_false, List.getElem?_cons_zero, List.getElem?_cons_succ, decide_true, decide_false, Bool.false_eq_true]
  have c45 : ¬ (A.o = 4 ∨ A.o = 5) := by omega
  by_cases c7 : A.o = 7
  · simp only [go_sem, true_and, and_true, ↓reduceIte, Nat.reduceEqDiff, Nat.reduceAdd, Bool.not_true, Bool.not_false, List.getElem?_cons_zero, List.getElem?_cons_succ, decide_true, decide_false, Bool.false_eq_true, nb c3, nb c4, nb c5, fn15u1, eb c7]
    obtain ⟨wv, qv, ev, ov, So, Sm, pT, hS⟩ := q1.tun A.i hi
    refine me_spec pT D.me.1 _ ?_
    have dme := D.me
    have wm : IntKind.i64.wrap ((P.t A.i).me + 100) = (P.t A.i).me + 100 := wrap64 (by omega) (by omega)
    simp only [go_sem, true_and, and_true, ↓reduceIte, Nat.reduceEqDiff, Nat.reduceAdd, Bool.not_true, Bool.not_false, List.getElem?_cons_zero, List.getElem?_cons_succ, decide_true, decide_false, Bool.false_eq_true, wm]
    refine new_spec _ _ (fun hh => absurd (by omega) hh) ?_
    intro _ t2 h2 S2 q2 f2 s2
    have q3 := q1.new f2 (by simp)
    have ha : P.act A = (P.turn A.i (Tn.fresh ((P.t A.i).me + 100)), true) := by unfold Pr.act; rw [if_neg c3, if_neg c45, if_pos c7]
    simp only [go_sem, true_and, and_true, ↓reduceIte, Nat.reduceEqDiff, Nat.reduceAdd, Bool.not_true, Bool.not_false, List.getElem?_cons_zero, List.getElem?_cons_succ, decide_true, decide_false, Bool.false_eq_true, idx_nat, hi, Nat.mul_one, Nat.zero_add]
    refine go_store0 (v := .ptr t2 0 0) (sub := A.i) q3.obj ?_ ?_ rfl (by simp [prC]; omega) ?_
    · simp only [go_sem, true_and, and_true, ↓reduceIte, Nat.reduceEqDiff, Nat.reduceAdd, Bool.not_true, Bool.not_false, List.getElem?_cons_zero, List.getElem?_cons_succ, decide_true, decide_false, Bool.false_eq_true]
    · simp only [go_sem, true_and, and_true, ↓reduceIte, Nat.reduceEqDiff, Nat.reduceAdd, Bool.not_true, Bool.not_false, List.getElem?_cons_zero, List.getElem?_cons_succ, decide_true, decide_false, Bool.false_eq_true]
    intro h3 f3 n3 e3
    rw [prC_setT hi] at e3
    have p0 : p ∈ Sp 0 := by rw [q.own]; simp
    have hp := q1.lt 0 (by omega) p p0
    have q4 := q2.fr f3 (fun k hk hm => by simp at hm; have := s2 k hk; omega)
    have hZ : ∀ k ∈ [p], k ∈ Sp 0 ∨ k ∈ Sp (1 + A.i) ∨ h1.next ≤ k := fun k hk => by simp at hk; subst hk; exact .inl p0
    have f13 : Fr [p] h1 h3 := (f2.mono (by simp)).trans f3 (fun k hk => .inl hk)
    have q5 := q1.setTun hi f13 hZ e3 q4 (fun k hk => .inr (s2 k hk))
    have up5 : Up h1 h3 (allS Sp) (allS (set1 Sp (1 + A.i) S2)) := up_part (by omega) f13 hZ (fun k hk => .inr (s2 k hk))
    simp only [go_sem, true_and, and_true, ↓reduceIte, Nat.reduceEqDiff, Nat.reduceAdd, Bool.not_true, Bool.not_false, List.getElem?_cons_zero, List.getElem?_cons_succ, decide_true, decide_false, Bool.false_eq_true, BEq.rfl]
    refine fin _ _ h3 _ bv _ ha q5 (u1.trans up5) ?_ ?_
    · simp only [go_sem, true_and, and_true, ↓reduceIte, Nat.reduceEqDiff, Nat.reduceAdd, Bool.not_true, Bool.not_false, List.getElem?_cons_zero, List.getElem?_cons_succ, decide_true, decide_false, Bool.false_eq_true]
    · simp only [go_sem, true_and, and_true, ↓reduceIte, Nat.reduceEqDiff, Nat.reduceAdd, Bool.not_true, Bool.not_false, List.getElem?_cons_zero, List.getElem?_cons_succ, decide_true, decide_false, Bool.false_eq_true]
  by_cases c8 : A.o = 8
  · have w1 : IntKind.i64.wrap (1 - (A.i : Int)) = ((1 - A.i : Nat) : Int) := by rw [wrap64 (by omega) (by omega)]; omega
    have lt' : loadV h1 false 1 (.ptr p 0 (1 - A.i)) = some (.ptr (ta (1 - A.i)) 0 0) := ld0 q1.obj (prC_tun hj)
    simp only [go_sem, true_and, and_true, ↓reduceIte, Nat.reduceEqDiff, Nat.reduceAdd, Bool.not_true, Bool.not_false, List.getElem?_cons_zero, List.getElem?_cons_succ, decide_true, decide_false, Bool.false_eq_true, nb c3, nb c4, nb c5, fn15u1, nb c7, eb c8, w1, idx_nat, hj, Nat.mul_one, Nat.zero_add, lt']
    obtain ⟨wv, qv, ev, ov, So, Sm, pT, hS⟩ := q1.tun (1 - A.i) hj
    refine me_spec pT (B.t _ hj).me.1 _ ?_
    simp only [go_sem, true_and, and_true, ↓reduceIte, Nat.reduceEqDiff, Nat.reduceAdd, Bool.not_true, Bool.not_false, List.getElem?_cons_zero, List.getElem?_cons_succ, decide_true, decide_false, Bool.false_eq_true]
    refine hint_spec hG (q1.tun A.i hi) D.me.1 (by have := D.ol; omega) _ _ ?_
    intro h2 S2 t2 u2
    have q2 := q1.setTun' hi u2 t2
    have up2 : Up h1 h2 (allS Sp) (allS (set1 Sp (1 + A.i) S2)) := up_part (by omega) u2.fr (fun k hk => .inr (.inl hk)) u2.sub
    have ha : P.act A = (P.turn A.i ((P.t A.i).hint (P.t (1 - A.i)).me), true) := by unfold Pr.act; rw [if_neg c3, if_neg c45, if_neg c7, if_pos c8]
    simp only [go_sem, true_and, and_true, ↓reduceIte, Nat.reduceEqDiff, Nat.reduceAdd, Bool.not_true, Bool.not_false, List.getElem?_cons_zero, List.getElem?_cons_succ, decide_true, decide_false, Bool.false_eq_true]
    refine fin _ _ h2 ta bv _ ha q2 (u1.trans up2) ?_ ?_
    · simp only [go_sem, true_and, and_true, ↓reduceIte, Nat.reduceEqDiff, Nat.reduceAdd, Bool.not_true, Bool.not_false, List.getElem?_cons_zero, List.getElem?_cons_succ, decide_true, decide_false, Bool.false_eq_true]
    · simp only [go_sem, true_and, and_true, ↓reduceIte, Nat.reduceEqDiff, Nat.reduceAdd, Bool.not_true, Bool.not_false, List.getElem?_cons_zero, List.getElem?_cons_succ, decide_true, decide_false, Bool.false_eq_true]
  have lb' : loadV h1 false 1 (.ptr p 0 (2 + A.i)) = some (bv A.i) := ld0 q1.obj (prC_bag hi)
  have bl := (q1.bag A.i hi).len
  rw [List.length_map] at bl
  have bb := B.bag A.i hi
  by_cases c0 : (P.bag A.i).length = 0
  · have ha : P.act A = (P, true) := by unfold Pr.act; rw [if_neg c3, if_neg c45, if_neg c7, if_neg c8, if_pos c0]
    have c0' : ¬ ((P.bag A.i).length : Int) > 0 := by omega
    simp only [go_sem, true_and, and_true, ↓reduceIte, Nat.reduceEqDiff, Nat.reduceAdd, Bool.not_true, Bool.not_false, List.getElem?_cons_zero, List.getElem?_cons_succ, decide_true, decide_false, Bool.false_eq_true, nb c3, nb c4, nb c5, fn15u1, nb c7, nb c8, idx_nat, hi, Nat.mul_one, lb', bl, c0']
    refine fin _ _ h1 ta bv _ ha q1 u1 ?_ ?_
    · simp only [go_sem, true_and, and_true, ↓reduceIte, Nat.reduceEqDiff, Nat.reduceAdd, Bool.not_true, Bool.not_false, List.getElem?_cons_zero, List.getElem?_cons_succ, decide_true, decide_false, Bool.false_eq_true]
    · simp only [go_sem, true_and, and_true, ↓reduceIte, Nat.reduceEqDiff, Nat.reduceAdd, Bool.not_true, Bool.not_false, List.getElem?_cons_zero, List.getElem?_cons_succ, decide_true, decide_false, Bool.false_eq_true]
  have c0' : ((P.bag A.i).length : Int) > 0 := by omega
  obtain ⟨n0, n1⟩ := atOf_lt A.at' (n := (P.bag A.i).length) (by omega) (by omega)
  have an : atOf A.at' (P.bag A.i).length = (A.n P : Int) := by unfold Ac1.n; omega
  have hn : A.n P < (P.bag A.i).length := by unfold Ac1.n; omega
  have an' : IntKind.i64.wrap ((IntKind.u64.wrap A.at').tmod (IntKind.u64.wrap ((P.bag A.i).length : Int))) = (A.n P : Int) := an
  have nz : ¬ (IntKind.u64.wrap ((P.bag A.i).length : Int) = 0) := by rw [u64uwrap]; omega
  by_cases c6 : A.o = 6
  · have ha : P.act A = (P.lose A.i (A.n P), true) := by unfold Pr.act; rw [if_neg c3, if_neg c45, if_neg c7, if_neg c8, if_neg c0, if_pos c6]
    simp only [go_sem, true_and, and_true, ↓reduceIte, Nat.reduceEqDiff, Nat.reduceAdd, Bool.not_true, Bool.not_false, List.getElem?_cons_zero, List.getElem?_cons_succ, decide_true, decide_false, Bool.false_eq_true, nb c3, nb c4, nb c5, fn15u1, nb c7, nb c8, idx_nat, hi, Nat.mul_one, lb', bl, c0', b2, nz, ne_eq, not_false_eq_true, an', eb c6]
    have w1 : IntKind.i64.wrap ((A.n P : Int) + 1) = ((A.n P + 1 : Nat) : Int) := by rw [wrap64 (by omega) (by omega)]; omega
    simp only [go_sem, true_and, and_true, ↓reduceIte, Nat.reduceEqDiff, Nat.reduceAdd, Bool.not_true, Bool.not_false, List.getElem?_cons_zero, List.getElem?_cons_succ, decide_true, decide_false, Bool.false_eq_true, w1]
    refine clone56 (l := P.bag A.i) ?_ (by omega) _ ?_
    · exact ((q1.bag A.i hi).rs (lb_cells1 _)).1
    rintro v2 h2 ⟨f2, S2, r2, s2⟩
    simp only [go_sem, true_and, and_true, ↓reduceIte, Nat.reduceEqDiff, Nat.reduceAdd, Bool.not_true, Bool.not_false, List.getElem?_cons_zero, List.getElem?_cons_succ, decide_true, decide_false, Bool.false_eq_true]
    refine del_spec r2 (A.n P) hn (by omega) _ ?_
    intro v3 h3 b3' f3 n3
    have q3 := (q1.new f2 (by simp)).fr f3 (fun j hj k hk hm => by have := q1.lt j hj k hk; have := s2 k hm; omega)
    have u3 : Up h1 h3 (allS Sp) (allS Sp) := ⟨f2.trans f3 (fun k hk => .inr (s2 k hk)) |>.mono (by simp), fun _ hk => .inl hk⟩
    simp only [go_sem, true_and, and_true, ↓reduceIte, Nat.reduceEqDiff, Nat.reduceAdd, Bool.not_true, Bool.not_false, List.getElem?_cons_zero, List.getElem?_cons_succ, decide_true, decide_false, Bool.false_eq_true, idx_nat, hi, Nat.mul_one]
    refine lose_store (h0 := h1) q3 hi (at' := A.n P) b3' (fun k hk j hj hm => by have := q1.lt j hj k hm; have := s2 k hk; omega) s2 u3 ?_ ?_ ?_
    · simp only [go_sem, true_and, and_true, ↓reduceIte, Nat.reduceEqDiff, Nat.reduceAdd, Bool.not_true, Bool.not_false, List.getElem?_cons_zero, List.getElem?_cons_succ, decide_true, decide_false, Bool.false_eq_true]
    · simp only [go_sem, true_and, and_true, ↓reduceIte, Nat.reduceEqDiff, Nat.reduceAdd, Bool.not_true, Bool.not_false, List.getElem?_cons_zero, List.getElem?_cons_succ, decide_true, decide_false, Bool.false_eq_true]
    intro h4 bv4 Sp4 q4 u4
    simp only [go_sem, true_and, and_true, ↓reduceIte, Nat.reduceEqDiff, Nat.reduceAdd, Bool.not_true, Bool.not_false, List.getElem?_cons_zero, List.getElem?_cons_succ, decide_true, decide_false, Bool.false_eq_true]
    refine fin _ _ h4 ta bv4 _ ha q4 (u1.trans u4) ?_ ?_
    · simp only [go_sem, true_and, and_true, ↓reduceIte, Nat.reduceEqDiff, Nat.reduceAdd, Bool.not_true, Bool.not_false, List.getElem?_cons_zero, List.getElem?_cons_succ, decide_true, decide_false, Bool.false_eq_true]
    · simp only [go_sem, true_and, and_true, ↓reduceIte, Nat.reduceEqDiff, Nat.reduceAdd, Bool.not_true, Bool.not_false, List.getElem?_cons_zero, List.getElem?_cons_succ, decide_true, decide_false, Bool.false_eq_true]
  · have ha : P.act A = P.take A.i (A.n P) A.stay := by unfold Pr.act; rw [if_neg c3, if_neg c45, if_neg c7, if_neg c8, if_neg c0, if_neg c6]
    simp only [go_sem, true_and, and_true, ↓reduceIte, Nat.reduceEqDiff, Nat.reduceAdd, Bool.not_true, Bool.not_false, List.getElem?_cons_zero, List.getElem?_cons_succ, decide_true, decide_false, Bool.false_eq_true, nb c3, nb c4, nb c5, fn15u1, nb c7, nb c8, idx_nat, hi, Nat.mul_one, lb', bl, c0', b2, nz, ne_eq, not_false_eq_true, an', nb c6, b4]
    refine ptake_spec hG q1 hi hn (by omega) D.tk (fun b hb => by have := bb.2 b hb; omega) (fun k => by have := B.told k; omega) (fun k => by have := B.sent k; omega) _ ?_
    intro h2 bv2 Sp2 q2 u2
    simp only [go_sem, true_and, and_true, ↓reduceIte, Nat.reduceEqDiff, Nat.reduceAdd, Bool.not_true, Bool.not_false, List.getElem?_cons_zero, List.getElem?_cons_succ, decide_true, decide_false, Bool.false_eq_true]
    refine fin _ _ h2 ta bv2 _ ha q2 (u1.trans u2) ?_ ?_
    · simp only [go_sem, true_and, and_true, ↓reduceIte, Nat.reduceEqDiff, Nat.reduceAdd, Bool.not_true, Bool.not_false, List.getElem?_cons_zero, List.getElem?_cons_succ, decide_true, decide_false, Bool.false_eq_true]
    · simp only [go_sem, true_and, and_true, ↓reduceIte, Nat.reduceEqDiff, Nat.reduceAdd, Bool.not_true, Bool.not_false, List.getElem?_cons_zero, List.getElem?_cons_succ, decide_true, decide_false, Bool.false_eq_true]

end Go.Am

/- The laws' guards: few. -/
namespace Go.Am
open Go.Proofs
variable {G : Nat → V} {h h' h'' : Heap} {fz : List Nat} {a : Tm} {K : Tm → Heap → Prop}

theorem ac_cells (l : List Ac1) : ∀ x ∈ l.map Ac1.v, x.cells.length = 5 := fun x hx => by
  obtain ⟨y, _, rfl⟩ := List.mem_map.1 hx
  rfl
def acts (l : List Ac1) : V := .lst (l.map Ac1.v)
theorem acts_rs (l : List Ac1) : Rs h 5 (acts l) (l.map Ac1.v) := Rs.lst (ac_cells l)
theorem acts_len (l : List Ac1) : lenV (acts l) = some l.length := by simp [acts, lenV]

theorem few_spec (l : List Ac1) (R : V → Heap → Prop) (hR : ∀ b : Bool, (b = true → l.length ≤ 400) → R (.bool b) h) : Calls0 Tryd.prog G 12 [acts l] h R := by
  refine fn_walk mixed fn12uis [] rfl ?_
  simp only [go_sem, true_and, and_true, ↓reduceIte, Nat.reduceEqDiff, Nat.reduceAdd, Bool.not_true, Bool.not_false, List.getElem?_cons_zero, List.getElem?_cons_succ, decide_true, decide_false, Bool.false_eq_true, fn12]
  have len := acts_len l
  -- the end: whatever was reckoned
  have fin : ∀ (a' : Tm) (m : Int), a' 0 = acts l → a' 3 = .int .i64 m → wpC (Calls0 Tryd.prog G) G [] fn12u4 (postF R [.tmp 2]) a' h := by
    intro a' m a0 a3
    by_cases c1 : (l.length : Int) ≤ 400
    · by_cases c2 : m ≤ 32768
      · simp only [go_sem, true_and, and_true, ↓reduceIte, Nat.reduceEqDiff, Nat.reduceAdd, Bool.not_true, Bool.not_false, List.getElem?_cons_zero, List.getElem?_cons_succ, decide_true, decide_false, Bool.false_eq_true, fn12u4, a0, len, c1, a3, c2]
        exact hR true (fun _ => by omega)
      · simp only [go_sem, true_and, and_true, ↓reduceIte, Nat.reduceEqDiff, Nat.reduceAdd, Bool.not_true, Bool.not_false, List.getElem?_cons_zero, List.getElem?_cons_succ, decide_true, decide_false, Bool.false_eq_true, fn12u4, a0, len, c1, a3, c2]
        exact hR false (by simp)
    · simp only [go_sem, true_and, and_true, ↓reduceIte, Nat.reduceEqDiff, Nat.reduceAdd, Bool.not_true, Bool.not_false, List.getElem?_cons_zero, List.getElem?_cons_succ, decide_true, decide_false, Bool.false_eq_true, fn12u4, a0, len, c1]
      exact hR false (by simp)
  refine w_loop (fun a h' n => n ≤ l.length ∧ l.length - n ≤ 401 ∧ h = h' ∧ a 0 = acts l ∧ a 4 = .int .i64 ((l.length - n : Nat) : Int) ∧ ∃ m : Nat, m ≤ 65536 ∧ a 3 = .int .i64 (m : Int)) l.length ?_ ?_
  · refine ⟨Nat.le_refl _, by omega, rfl, ?_, ?_, 0, Nat.zero_le _, ?_⟩
    · simp only [go_sem, true_and, and_true, ↓reduceIte, Nat.reduceEqDiff, Nat.reduceAdd, Bool.not_true, Bool.not_false, List.getElem?_cons_zero, List.getElem?_cons_succ, decide_true, decide_false, Bool.false_eq_true]
    · simp only [go_sem, true_and, and_true, ↓reduceIte, Nat.reduceEqDiff, Nat.reduceAdd, Bool.not_true, Bool.not_false, List.getElem?_cons_zero, List.getElem?_cons_succ, decide_true, decide_false, Bool.false_eq_true, Nat.sub_self]
      rfl
    · simp only [go_sem, true_and, and_true, ↓reduceIte, Nat.reduceEqDiff, Nat.reduceAdd, Bool.not_true, Bool.not_false, List.getElem?_cons_zero, List.getElem?_cons_succ, decide_true, decide_false, Bool.false_eq_true]
      rfl
  · rintro a h1 n ⟨hn, hi, rfl, a0, a4, m, hm, a3⟩
    obtain ⟨i, ei⟩ : ∃ i, l.length - n = i := ⟨_, rfl⟩
    rw [ei] at a4 hi
    by_cases c1 : (i : Int) < l.length
    · by_cases c2 : (i : Int) ≤ 400
      · by_cases c3 : (m : Int) ≤ 32768
        · have hlt : i < l.length := by omega
          have wi : IntKind.i64.wrap ((i : Int) + 1) = ((i + 1 : Nat) : Int) := by rw [wrap64 (by omega) (by omega)]; omega
          simp only [go_sem, true_and, and_true, ↓reduceIte, Nat.reduceEqDiff, Nat.reduceAdd, Bool.not_true, Bool.not_false, List.getElem?_cons_zero, List.getElem?_cons_succ, decide_true, decide_false, Bool.false_eq_true, fn12u3, a0, a3, a4, len, c1, c2, c3, fn12u1, fn12u2]
          refine go_iaddr (k := .i64) (n := i) (e := l[i].v) (v := acts l) (xs := l.map Ac1.v) (acts_rs l) ?_ ?_ ?_ ?_
          · simp only [go_sem, true_and, and_true, ↓reduceIte, Nat.reduceEqDiff, Nat.reduceAdd, Bool.not_true, Bool.not_false, List.getElem?_cons_zero, List.getElem?_cons_succ, decide_true, decide_false, Bool.false_eq_true, a0]
          · simp only [go_sem, true_and, and_true, ↓reduceIte, Nat.reduceEqDiff, Nat.reduceAdd, Bool.not_true, Bool.not_false, List.getElem?_cons_zero, List.getElem?_cons_succ, decide_true, decide_false, Bool.false_eq_true, a4]
          · simp [hlt]
          intro p1 r1
          obtain ⟨p2, e1, l2⟩ := r1.field (y := lb l[i].b) 3 rfl
          have e2 : stepI G a h (.faddr (.c p1) 3) = some (p2, h) := e1 rfl
          simp only [go_sem, true_and, and_true, ↓reduceIte, Nat.reduceEqDiff, Nat.reduceAdd, Bool.not_true, Bool.not_false, List.getElem?_cons_zero, List.getElem?_cons_succ, decide_true, decide_false, Bool.false_eq_true] at e2
          obtain ⟨k, hk, ek⟩ : ∃ k : Nat, k ≤ 32768 ∧ (if (32768 : Int) < (l[i].b.length : Int) then (32768 : Int) else (l[i].b.length : Int)) = (k : Int) := by
            split
            · exact ⟨32768, Nat.le_refl _, rfl⟩
            · exact ⟨l[i].b.length, by omega, rfl⟩
          have wm : IntKind.i64.wrap ((m : Int) + (k : Int)) = ((m + k : Nat) : Int) := by rw [wrap64 (by omega) (by omega)]; omega
          simp only [go_sem, true_and, and_true, ↓reduceIte, Nat.reduceEqDiff, Nat.reduceAdd, Bool.not_true, Bool.not_false, List.getElem?_cons_zero, List.getElem?_cons_succ, decide_true, decide_false, Bool.false_eq_true, e2, l2, lb_len, ek, a3, wm, a4, wi]
          exact ⟨n - 1, by omega, by omega, by omega, a0, by rw [show l.length - (n - 1) = i + 1 from by omega], m + k, by omega, rfl⟩
        · simp only [go_sem, true_and, and_true, ↓reduceIte, Nat.reduceEqDiff, Nat.reduceAdd, Bool.not_true, Bool.not_false, List.getElem?_cons_zero, List.getElem?_cons_succ, decide_true, decide_false, Bool.false_eq_true, fn12u3, a0, a3, a4, len, c1, c2, c3, fn12u1]
          refine fin _ m ?_ ?_
          · simp only [go_sem, true_and, and_true, ↓reduceIte, Nat.reduceEqDiff, Nat.reduceAdd, Bool.not_true, Bool.not_false, List.getElem?_cons_zero, List.getElem?_cons_succ, decide_true, decide_false, Bool.false_eq_true, a0]
          · simp only [go_sem, true_and, and_true, ↓reduceIte, Nat.reduceEqDiff, Nat.reduceAdd, Bool.not_true, Bool.not_false, List.getElem?_cons_zero, List.getElem?_cons_succ, decide_true, decide_false, Bool.false_eq_true, a3]
      · simp only [go_sem, true_and, and_true, ↓reduceIte, Nat.reduceEqDiff, Nat.reduceAdd, Bool.not_true, Bool.not_false, List.getElem?_cons_zero, List.getElem?_cons_succ, decide_true, decide_false, Bool.false_eq_true, fn12u3, a0, a3, a4, len, c1, c2, fn12u1]
        refine fin _ m ?_ ?_
        · simp only [go_sem, true_and, and_true, ↓reduceIte, Nat.reduceEqDiff, Nat.reduceAdd, Bool.not_true, Bool.not_false, List.getElem?_cons_zero, List.getElem?_cons_succ, decide_true, decide_false, Bool.false_eq_true, a0]
        · simp only [go_sem, true_and, and_true, ↓reduceIte, Nat.reduceEqDiff, Nat.reduceAdd, Bool.not_true, Bool.not_false, List.getElem?_cons_zero, List.getElem?_cons_succ, decide_true, decide_false, Bool.false_eq_true, a3]
    · simp only [go_sem, true_and, and_true, ↓reduceIte, Nat.reduceEqDiff, Nat.reduceAdd, Bool.not_true, Bool.not_false, List.getElem?_cons_zero, List.getElem?_cons_succ, decide_true, decide_false, Bool.false_eq_true, fn12u3, a0, a3, a4, len, c1, fn12u1]
      refine fin _ m ?_ ?_
      · simp only [go_sem, true_and, and_true, ↓reduceIte, Nat.reduceEqDiff, Nat.reduceAdd, Bool.not_true, Bool.not_false, List.getElem?_cons_zero, List.getElem?_cons_succ, decide_true, decide_false, Bool.false_eq_true, a0]
      · simp only [go_sem, true_and, and_true, ↓reduceIte, Nat.reduceEqDiff, Nat.reduceAdd, Bool.not_true, Bool.not_false, List.getElem?_cons_zero, List.getElem?_cons_succ, decide_true, decide_false, Bool.false_eq_true, a3]

end Go.Am

/- Bounds of a tunnel and of a pair. -/
namespace Go.Am
open Go.Proofs

theorem outB_len (f : Fm) : (outB f).length ≤ 700 := by
  unfold outB
  split
  · rename_i h
    have ok := (check_ok.1 h).body
    have h1 := numsF_len [f.kind, f.src, f.you, f.seq, f.ack, f.bits]
    have h2 := numF_len (f.body.length : Int)
    simp only [List.length_cons, List.length_nil] at h1
    simp only [putF, sealF, frameB, sumB, List.length_append, List.length_cons, List.length_map, List.length_nil]
    omega
  · simp

/-- What a tunnel keeps, after n acts. -/
structure TI (n : Nat) (T : Tn) : Prop where
  me : 0 < T.me ∧ T.me ≤ 5000 + 101 * (n : Int)
  ep : 0 ≤ T.epoch ∧ T.epoch ≤ n
  ti : 0 ≤ T.ticks ∧ T.ticks ≤ n
  si : 0 ≤ T.silence ∧ T.silence ≤ n
  nx : 0 ≤ T.next ∧ T.next + T.queue.length ≤ n
  wa : ∀ s ∈ T.way, (0 ≤ s.1 ∧ s.1 ≤ T.next) ∧ (0 ≤ s.2.2 ∧ s.2.2 ≤ n) ∧ s.2.1.length ≤ 512
  qu : ∀ b ∈ T.queue, b.length ≤ 512
  wl : T.queue.length + T.way.length ≤ 64
  ex : 0 ≤ T.expect ∧ T.expect ≤ 1099511627776
  ek : (T.early.map (·.1)).Nodup
  er : ∀ e ∈ T.early, T.expect < e.1 ∧ e.1 ≤ T.expect + 16 ∧ e.1 ≤ 1099511627776
/-- What it says besides. -/
def Said (k : Nat) (T T' : Tn) : Prop := T'.out.length ≤ T.out.length + k ∧ ((∀ b ∈ T.out, b.length ≤ 700) → ∀ b ∈ T'.out, b.length ≤ 700)

theorem Said.refl (T : Tn) : Said 0 T T := ⟨Nat.le_refl _, id⟩
theorem Said.trans {i j : Nat} {T T' T'' : Tn} (s : Said i T T') (r : Said j T' T'') : Said (i + j) T T'' := ⟨by have := s.1; have := r.1; omega, fun h => r.2 (s.2 h)⟩
theorem Said.mono {i j : Nat} {T T' : Tn} (s : Said i T T') (h : i ≤ j) : Said j T T' := ⟨by have := s.1; omega, s.2⟩
theorem said_say (T : Tn) (f : Fm) : Said 1 T (T.say f) := by
  refine ⟨by simp [Tn.say], fun h b hb => ?_⟩
  simp only [Tn.say, List.mem_append, List.mem_singleton] at hb
  rcases hb with hb | rfl
  · exact h b hb
  · exact outB_len _

theorem TI.mono {n m : Nat} {T : Tn} (t : TI n T) (h : n ≤ m) : TI m T := by
  obtain ⟨me, ep, ti, si, nx, wa, qu, wl, ex, ek, er⟩ := t
  exact ⟨by omega, by omega, by omega, by omega, by omega, fun s hs => by have := wa s hs; exact ⟨this.1, by omega, this.2.2⟩, qu, wl, ex, ek, er⟩
theorem TI.say {n : Nat} {T : Tn} (t : TI n T) (f : Fm) : TI n (T.say f) := by
  obtain ⟨me, ep, ti, si, nx, wa, qu, wl, ex, ek, er⟩ := t
  exact ⟨me, ep, ti, si, nx, wa, qu, wl, ex, ek, er⟩
theorem TI.quiet {n : Nat} {T : Tn} (t : TI n T) : TI n { T with silence := 0 } := by
  obtain ⟨me, ep, ti, si, nx, wa, qu, wl, ex, ek, er⟩ := t
  exact ⟨me, ep, ti, ⟨Int.le_refl _, Int.natCast_nonneg n⟩, nx, wa, qu, wl, ex, ek, er⟩
theorem TI.fresh {n : Nat} {me : Int} (h : 0 < me ∧ me ≤ 5000 + 101 * (n : Int)) : TI n (Tn.fresh me) :=
  ⟨h, ⟨Int.le_refl _, Int.natCast_nonneg n⟩, ⟨Int.le_refl _, Int.natCast_nonneg n⟩, ⟨Int.le_refl _, Int.natCast_nonneg n⟩, ⟨Int.le_refl _, by simp [Tn.fresh]⟩, by simp [Tn.fresh], by simp [Tn.fresh], by simp [Tn.fresh], by simp [Tn.fresh], by simp [Tn.fresh], by simp [Tn.fresh]⟩
theorem TI.begin {n : Nat} {T : Tn} (t : TI n T) (you : Int) : TI (n + 1) (T.begin you) := by
  obtain ⟨me, ep, ti, si, nx, wa, qu, wl, ex, ek, er⟩ := t
  refine TI.say ⟨?_, ?_, ?_, ?_, ?_, ?_, ?_, ?_, ?_, ?_, ?_⟩ _ <;> simp <;> omega
theorem TI.stop {n : Nat} {T : Tn} (t : TI n T) : TI (n + 1) T.stop := by
  obtain ⟨me, ep, ti, si, nx, wa, qu, wl, ex, ek, er⟩ := t
  refine ⟨?_, ?_, ?_, ?_, ?_, ?_, ?_, ?_, ?_, ?_, ?_⟩ <;> simp [Tn.stop] <;> omega
theorem said_begin (T : Tn) (you : Int) : Said 1 T (T.begin you) := said_say _ _
theorem said_stop (T : Tn) : Said 0 T T.stop := ⟨Nat.le_refl _, id⟩

theorem TI.hint {n : Nat} {T : Tn} (t : TI n T) (you : Int) : TI (n + 1) (T.hint you) := by
  unfold Tn.hint
  split
  · exact (t.say _).mono (by omega)
  · exact t.mono (by omega)
theorem said_hint (T : Tn) (you : Int) : Said 1 T (T.hint you) := by
  unfold Tn.hint
  split
  · exact said_say _ _
  · exact (Said.refl T).mono (by omega)
theorem TI.hello {n : Nat} {T : Tn} (t : TI n T) (f : Fm) : TI (n + 1) (T.hello f) := by
  unfold Tn.hello
  split
  · split
    · exact (t.say _).mono (by omega)
    · exact t.mono (by omega)
  · split
    · exact t.begin _
    · split
      · exact t.quiet.mono (by omega)
      · exact t.mono (by omega)
theorem said_hello (T : Tn) (f : Fm) : Said 1 T (T.hello f) := by
  unfold Tn.hello
  split
  · split
    · exact said_say _ _
    · exact (Said.refl T).mono (by omega)
  · split
    · exact said_begin _ _
    · split
      · exact ⟨by simp, id⟩
      · exact (Said.refl T).mono (by omega)

theorem TI.step {n : Nat} {T : Tn} (t : TI n T) {b : List UInt8} {q : List (List UInt8)} (e : T.queue = b :: q) : TI n (T.step b q) := by
  obtain ⟨me, ep, ti, si, nx, wa, qu, wl, ex, ek, er⟩ := t
  rw [e] at nx qu wl
  simp only [List.length_cons] at nx wl
  refine TI.say (T := { T with next := T.next + 1, way := T.way ++ [(T.next + 1, b, 0)], queue := q }) ⟨me, ep, ti, si, ?_, ?_, fun x hx => qu x (List.mem_cons_of_mem _ hx), ?_, ex, ek, er⟩ _
  · show 0 ≤ T.next + 1 ∧ T.next + 1 + (q.length : Int) ≤ n
    omega
  · intro s hs
    simp only [List.mem_append, List.mem_singleton] at hs
    rcases hs with hs | rfl
    · have := wa s hs
      exact ⟨⟨this.1.1, by show s.1 ≤ T.next + 1; omega⟩, this.2⟩
    · exact ⟨⟨by show 0 ≤ T.next + 1; omega, Int.le_refl _⟩, ⟨Int.le_refl _, Int.natCast_nonneg n⟩, qu b (by simp)⟩
  · simp only [List.length_append, List.length_singleton]
    omega
theorem TI.slideGo {n : Nat} : ∀ (q : List (List UInt8)) (T : Tn), T.queue = q → TI n T → TI n (T.slideGo q)
  | [], T, _, t => t
  | b :: q, T, e, t => by
    unfold Tn.slideGo
    split
    · exact TI.slideGo q (T.step b q) rfl (t.step e)
    · exact t
theorem said_slideGo : ∀ (q : List (List UInt8)) (T : Tn), Said q.length T (T.slideGo q)
  | [], T => Said.refl T
  | b :: q, T => by
    unfold Tn.slideGo
    split
    · have h1 : Said 1 T (T.step b q) := said_say _ _
      exact (h1.trans (said_slideGo q (T.step b q))).mono (by simp; omega)
    · exact (Said.refl T).mono (by omega)
theorem TI.slide {n : Nat} {T : Tn} (t : TI n T) : TI n T.slide := TI.slideGo _ T rfl t
theorem said_slide {n : Nat} {T : Tn} (t : TI n T) : Said 64 T T.slide := (said_slideGo _ _).mono (by have := t.wl; omega)
theorem TI.send {n : Nat} {T : Tn} (t : TI n T) (b : List UInt8) : TI (n + 1) (T.send b).1 := by
  unfold Tn.send
  split
  · exact t.mono (by omega)
  · split
    · exact t.mono (by omega)
    · split
      · exact t.mono (by omega)
      · rename_i c1 c2 c3
        refine TI.slide ?_
        obtain ⟨me, ep, ti, si, nx, wa, qu, wl, ex, ek, er⟩ := t.mono (m := n + 1) (by omega)
        have nx' := t.nx
        refine ⟨me, ep, ti, si, ⟨nx.1, ?_⟩, wa, fun x hx => ?_, ?_, ex, ek, er⟩
        · simp only [Tn.wait, List.length_append, List.length_singleton]
          omega
        · simp only [Tn.wait, List.mem_append, List.mem_singleton] at hx
          rcases hx with hx | rfl
          · exact qu x hx
          · omega
        · have hu : T.up = true := by simpa using c1
          simp only [Tn.room, hu, if_true, Tn.waiting] at c3
          simp only [Tn.wait, List.length_append, List.length_singleton]
          omega
theorem said_send {n : Nat} {T : Tn} (t : TI n T) (b : List UInt8) : Said 65 T (T.send b).1 := by
  unfold Tn.send
  split
  · exact (Said.refl T).mono (by omega)
  · split
    · exact (Said.refl T).mono (by omega)
    · split
      · exact (Said.refl T).mono (by omega)
      · have h := said_slideGo (T.wait b).queue (T.wait b)
        have := t.wl
        exact ⟨by have := h.1; simp only [Tn.wait, List.length_append, List.length_singleton] at this ⊢; simp only [Tn.slide]; omega, h.2⟩

theorem TI.acks {n : Nat} {T : Tn} (t : TI n T) (f : Fm) : TI n (T.acks f) := by
  refine TI.slide ?_
  obtain ⟨me, ep, ti, si, nx, wa, qu, wl, ex, ek, er⟩ := t
  have := List.length_filter_le (fun s => !acked f.ack f.bits s) T.way
  exact ⟨me, ep, ti, si, nx, fun s hs => wa s (List.mem_filter.1 hs).1, qu, Nat.le_trans (Nat.add_le_add_left this _) wl, ex, ek, er⟩
theorem said_acks {n : Nat} {T : Tn} (t : TI n T) (f : Fm) : Said 64 T (T.acks f) := by
  have h := said_slideGo T.queue { T with way := T.way.filter fun s => !acked f.ack f.bits s }
  have := t.wl
  exact ⟨by have := h.1; simp only [Tn.acks, Tn.slide] at this ⊢; omega, h.2⟩

/-! ### what is early -/

theorem ePut_keys (k : Int) (b : List UInt8) : ∀ (l : Es), (l.map (·.1)).Nodup → ((ePut k b l).map (·.1)).Nodup
  | [], _ => by simp [ePut]
  | p :: l, h => by
    simp only [List.map_cons, List.nodup_cons] at h
    simp only [ePut]
    split
    · rename_i e
      simp only [List.map_cons, List.nodup_cons]
      exact ⟨by rw [← e]; exact h.1, h.2⟩
    · rename_i e
      simp only [List.map_cons, List.nodup_cons]
      refine ⟨fun hm => ?_, ePut_keys k b l h.2⟩
      obtain ⟨x, hx, hk⟩ := List.mem_map.1 hm
      rcases ePut_mem hx with g | g
      · exact h.1 (List.mem_map.2 ⟨x, g, hk⟩)
      · exact e (by rw [← hk, g])
where ePut_mem {k : Int} {b : List UInt8} {x : Int × List UInt8} : ∀ {l : Es}, x ∈ ePut k b l → x ∈ l ∨ x.1 = k
  | [], hx => by simp [ePut] at hx; exact .inr (by rw [hx])
  | p :: l, hx => by
    simp only [ePut] at hx
    split at hx
    · simp only [List.mem_cons] at hx
      rcases hx with rfl | hx
      · exact .inr rfl
      · exact .inl (by simp [hx])
    · simp only [List.mem_cons] at hx
      rcases hx with rfl | hx
      · exact .inl (by simp)
      · rcases ePut_mem hx with g | g
        · exact .inl (by simp [g])
        · exact .inr g
theorem ePut_mem {k : Int} {b : List UInt8} {x : Int × List UInt8} {l : Es} (h : x ∈ ePut k b l) : x ∈ l ∨ x.1 = k := ePut_keys.ePut_mem h
theorem eDel_mem {k : Int} {x : Int × List UInt8} : ∀ {l : Es}, x ∈ eDel k l → x ∈ l
  | [], hx => by simp [eDel] at hx
  | p :: l, hx => by
    simp only [eDel] at hx
    split at hx
    · simp [hx]
    · simp only [List.mem_cons] at hx
      rcases hx with rfl | hx
      · simp
      · simp [eDel_mem hx]
theorem eDel_keys (k : Int) : ∀ (l : Es), (l.map (·.1)).Nodup → ((eDel k l).map (·.1)).Nodup ∧ ∀ e ∈ eDel k l, e.1 ≠ k
  | [], _ => by simp [eDel]
  | p :: l, h => by
    simp only [List.map_cons, List.nodup_cons] at h
    simp only [eDel]
    split
    · rename_i e
      exact ⟨h.2, fun x hx hk => h.1 (List.mem_map.2 ⟨x, hx, by rw [hk, e]⟩)⟩
    · rename_i e
      obtain ⟨q1, q2⟩ := eDel_keys k l h.2
      simp only [List.map_cons, List.nodup_cons]
      refine ⟨⟨fun hm => ?_, q1⟩, fun x hx => ?_⟩
      · obtain ⟨x, hx, hk⟩ := List.mem_map.1 hm
        exact h.1 (List.mem_map.2 ⟨x, eDel_mem hx, hk⟩)
      · simp only [List.mem_cons] at hx
        rcases hx with rfl | hx
        · exact e
        · exact q2 x hx
theorem eGet_mem {k : Int} {b : List UInt8} : ∀ {l : Es}, eGet k l = some b → (k, b) ∈ l
  | [], h => by simp [eGet] at h
  | p :: l, h => by
    simp only [eGet] at h
    split at h
    · rename_i e
      injection h with h
      rw [← e, ← h]
      simp
    · simp [eGet_mem h]

/-- Different numbers out of few are few. -/
theorem nodup_few : ∀ (n : Nat) (x : Int) (l : List Int), l.Nodup → (∀ e ∈ l, x < e ∧ e ≤ x + n) → l.length ≤ n
  | 0, x, l, _, h => by
    cases l with
    | nil => simp
    | cons e l => have := h e (by simp); omega
  | n + 1, x, l, d, h => by
    by_cases c : x + (n + 1 : Nat) ∈ l
    · have h1 := nodup_few n x (l.erase (x + (n + 1 : Nat))) (d.erase _) (fun e he => by
        have := h e (List.mem_of_mem_erase he)
        have : e ≠ x + (n + 1 : Nat) := fun q => by rw [d.mem_erase_iff] at he; exact he.1 q
        omega)
      have := List.length_erase_of_mem c
      omega
    · have h1 := nodup_few n x l d (fun e he => by
        have := h e he
        have : e ≠ x + (n + 1 : Nat) := fun q => c (q ▸ he)
        omega)
      omega
theorem TI.el {n : Nat} {T : Tn} (t : TI n T) : T.early.length ≤ 16 := by
  have := nodup_few 16 T.expect (T.early.map (·.1)) t.ek (fun e he => by
    obtain ⟨x, hx, rfl⟩ := List.mem_map.1 he
    have := t.er x hx
    omega)
  simpa using this

theorem TI.keep {n : Nat} {T : Tn} (t : TI n T) (f : Fm) (hf : f.seq ≤ 1099511627776) : TI n (T.keep f) := by
  unfold Tn.keep
  split
  · rename_i c
    obtain ⟨me, ep, ti, si, nx, wa, qu, wl, ex, ek, er⟩ := t
    refine ⟨me, ep, ti, si, nx, wa, qu, wl, ex, ePut_keys _ _ _ ek, fun e he => ?_⟩
    rcases ePut_mem he with g | g
    · exact er e g
    · show T.expect < e.1 ∧ e.1 ≤ T.expect + 16 ∧ e.1 ≤ 1099511627776
      omega
  · exact t
theorem TI.tell {n : Nat} : ∀ (k : Nat) (T : Tn), TI n T → TI n (Tn.tell k T).1
  | 0, T, t => t
  | k + 1, T, t => by
    unfold Tn.tell
    split
    · exact t
    · rename_i b hb
      refine TI.tell k _ ?_
      have hm := eGet_mem hb
      obtain ⟨me, ep, ti, si, nx, wa, qu, wl, ex, ek, er⟩ := t
      have hx := er _ hm
      simp only at hx
      obtain ⟨d1, d2⟩ := eDel_keys (T.expect + 1) T.early ek
      refine ⟨me, ep, ti, si, nx, wa, qu, wl, by simp only; omega, d1, fun e he => ?_⟩
      have h1 := er e (eDel_mem he)
      have h2 := d2 e he
      show T.expect + 1 < e.1 ∧ e.1 ≤ T.expect + 1 + 16 ∧ e.1 ≤ 1099511627776
      omega
theorem told_len {n : Nat} {T : Tn} (t : TI n T) (f : Fm) (hf : f.seq ≤ 1099511627776) : (T.data f).2.length ≤ 16 :=
  Nat.le_trans (tell_len _ _) (t.keep f hf).el
theorem TI.data {n : Nat} {T : Tn} (t : TI n T) (f : Fm) (hf : f.seq ≤ 1099511627776) : TI n (T.data f).1 := (TI.tell _ _ (t.keep f hf)).say _
theorem said_data (T : Tn) (f : Fm) : Said 1 T (T.data f).1 := by
  have h : (T.told f).1.out = T.out := by
    unfold Tn.told
    rw [(tell_keep _ _).2.2.2.2.2.2.2.2.1]
    unfold Tn.keep
    split <;> rfl
  have := said_say (T.told f).1 (ackM T.you (T.told f).1.expect ((T.told f).1.bitsTo 16))
  unfold Said at this
  rw [h] at this
  exact this

theorem TI.take {n : Nat} {T : Tn} (t : TI n T) (bs : List UInt8) : TI (n + 1) (T.take bs).1 := by
  unfold Tn.take
  cases hg : getF bs with
  | mk o e =>
    cases o with
    | none => exact t.mono (by omega)
    | some f =>
      have hf := (check_ok.1 (getF_check (bs := bs) (f := f) (by rw [hg]))).seq.2
      dsimp only
      split
      · exact t.hello f
      · split
        · dsimp only
          split
          · exact (t.say _).mono (by omega)
          · exact t.mono (by omega)
        · split
          · exact (t.quiet.acks f).mono (by omega)
          · exact (t.quiet.data f hf).mono (by omega)
theorem said_take {n : Nat} {T : Tn} (t : TI n T) (bs : List UInt8) : Said 64 T (T.take bs).1 := by
  unfold Tn.take
  cases hg : getF bs with
  | mk o e =>
    cases o with
    | none => exact (Said.refl T).mono (by omega)
    | some f =>
      dsimp only
      split
      · exact (said_hello T f).mono (by omega)
      · split
        · dsimp only
          split
          · exact (said_say _ _).mono (by omega)
          · exact (Said.refl T).mono (by omega)
        · split
          · exact said_acks t.quiet f
          · exact (said_data { T with silence := 0 } f).mono (by omega)
theorem take_few {n : Nat} {T : Tn} (t : TI n T) (bs : List UInt8) : (T.take bs).2.1.length ≤ 16 := by
  unfold Tn.take
  cases hg : getF bs with
  | mk o e =>
    cases o with
    | none => simp
    | some f =>
      have hf := (check_ok.1 (getF_check (bs := bs) (f := f) (by rw [hg]))).seq.2
      dsimp only
      split
      · simp
      · split
        · simp
        · split
          · simp
          · exact told_len t.quiet f hf

theorem TI.again {n : Nat} : ∀ (l : List (Int × List UInt8 × Int)) (T : Tn), TI n T → TI n (T.again l)
  | [], T, t => t
  | s :: l, T, t => by
    unfold Tn.again
    split
    · exact TI.again l _ (t.say _)
    · exact TI.again l _ t
theorem said_again : ∀ (l : List (Int × List UInt8 × Int)) (T : Tn), Said l.length T (T.again l)
  | [], T => Said.refl T
  | s :: l, T => by
    unfold Tn.again
    split
    · exact ((said_say _ _).trans (said_again l _)).mono (by simp; omega)
    · exact (said_again l T).mono (by simp)
theorem TI.ages {n : Nat} {T : Tn} (t : TI (n + 1) T) (ha : ∀ s ∈ T.way, s.2.2 ≤ n) : TI (n + 1) T.ages := by
  obtain ⟨me, ep, ti, si, nx, wa, qu, wl, ex, ek, er⟩ := TI.again T.way T t
  have hw := t.wa
  have k := again_keep T.way T
  refine ⟨me, ep, ti, si, nx, ?_, qu, ?_, ex, ek, er⟩
  · intro s hs
    obtain ⟨s', hs', rfl⟩ := List.mem_map.1 hs
    have := hw s' hs'
    have := ha s' hs'
    have kn : (T.again T.way).next = T.next := again_next _ _
    refine ⟨⟨(hw s' hs').1.1, by show s'.1 ≤ (T.again T.way).next; rw [kn]; exact (hw s' hs').1.2⟩, ?_, (hw s' hs').2.2⟩
    show 0 ≤ s'.2.2 + 1 ∧ s'.2.2 + 1 ≤ ((n + 1 : Nat) : Int)
    omega
  · show (T.again T.way).queue.length + (T.way.map aged).length ≤ 64
    rw [List.length_map, k.2.2.2.2.1]
    exact t.wl
where again_next : ∀ (l : List (Int × List UInt8 × Int)) (T : Tn), (T.again l).next = T.next
  | [], _ => rfl
  | s :: l, T => by
    unfold Tn.again
    rw [again_next l _]
    split <;> rfl
theorem TI.tick {n : Nat} {T : Tn} (t : TI n T) : TI (n + 1) T.tick := by
  have t1 : TI (n + 1) T.tick1 := by
    obtain ⟨me, ep, ti, si, nx, wa, qu, wl, ex, ek, er⟩ := t.mono (m := n + 1) (by omega)
    have := t.ti
    exact ⟨me, ep, by simp only [Tn.tick1]; omega, si, nx, wa, qu, wl, ex, ek, er⟩
  have e1 : ∀ {x : Int}, x ≤ (n : Int) → 0 ≤ x → 0 ≤ x + 1 ∧ x + 1 ≤ ((n + 1 : Nat) : Int) := by intro x; omega
  unfold Tn.tick
  split
  · split
    · exact t1.say _
    · exact t1
  · split
    · obtain ⟨me, ep, ti, si, nx, wa, qu, wl, ex, ek, er⟩ := t
      refine ⟨?_, ?_, ?_, ?_, ?_, ?_, ?_, ?_, ?_, ?_, ?_⟩ <;> simp [Tn.stop, Tn.tick1, Tn.tick2] <;> omega
    · have t2 : TI (n + 1) T.tick1.tick2 := by
        obtain ⟨me, ep, ti, si, nx, wa, qu, wl, ex, ek, er⟩ := t1
        have := t.si
        exact ⟨me, ep, ti, by simp only [Tn.tick2, Tn.tick1]; omega, nx, wa, qu, wl, ex, ek, er⟩
      have t3 : TI (n + 1) T.tick1.tick2.tick3 := by
        unfold Tn.tick3
        split
        · exact t2.say _
        · exact t2
      have w3 : T.tick1.tick2.tick3.way = T.way := by
        unfold Tn.tick3
        split <;> rfl
      refine t3.ages (fun s hs => ?_)
      rw [w3] at hs
      exact (t.wa s hs).2.1.2
theorem said_tick {n : Nat} {T : Tn} (t : TI n T) : Said 66 T T.tick := by
  unfold Tn.tick
  split
  · split
    · exact (said_say T.tick1 _).mono (by omega)
    · exact (Said.refl T).mono (by omega)
  · split
    · exact (said_stop T).mono (by omega)
    · have s3 : Said 1 T T.tick1.tick2.tick3 := by
        unfold Tn.tick3
        split
        · exact said_say T.tick1.tick2 _
        · exact (Said.refl T).mono (by omega)
      have w3 : T.tick1.tick2.tick3.way = T.way := by
        unfold Tn.tick3
        split <;> rfl
      have s4 := said_again T.tick1.tick2.tick3.way T.tick1.tick2.tick3
      rw [w3] at s4
      have s5 : Said T.way.length T.tick1.tick2.tick3 T.tick1.tick2.tick3.ages := by
        unfold Tn.ages
        rw [w3]
        exact s4
      exact (s3.trans s5).mono (by have := t.wl; omega)

/-! ### the pair -/

structure PrI (n : Nat) (P : Pr) : Prop where
  t : ∀ i, i < 2 → TI n (P.t i)
  o : ∀ i, i < 2 → (P.t i).out = []
  bag : ∀ i, i < 2 → (P.bag i).length ≤ 200 ∧ ∀ b ∈ P.bag i, b.length ≤ 700
  sent : ∀ k, (aGet k P.sent).length ≤ n
  told : ∀ k, (aGet k P.told).length ≤ 16 * n

theorem aGet_aAdd_ne {k k' : Ky} (ys : List (List UInt8)) (hk : k ≠ k') : ∀ es : Ac, aGet k (aAdd k' ys es) = aGet k es
  | [] => by simp [aAdd, aGet]; exact fun e => absurd e.symm hk
  | e :: es => by
    simp only [aAdd]
    split
    · rename_i c
      have : ¬ e.1 = k := fun q => hk (by rw [← q, c])
      simp only [aGet, if_neg this]
    · simp only [aGet]
      split
      · rfl
      · exact aGet_aAdd_ne ys hk es
theorem aGet_add_len (k k' : Ky) (ys : List (List UInt8)) (es : Ac) : (aGet k (aAdd k' ys es)).length ≤ (aGet k es).length + ys.length := by
  by_cases e : k = k'
  · subst e
    rw [aGet_aAdd]
    simp
  · rw [aGet_aAdd_ne ys e]
    omega

/-- After an act, before both say. -/
structure PrM (n : Nat) (P : Pr) : Prop where
  t : ∀ i, i < 2 → TI n (P.t i)
  o : ∀ i, i < 2 → (P.t i).out.length ≤ 66 ∧ ∀ b ∈ (P.t i).out, b.length ≤ 700
  bag : ∀ i, i < 2 → (P.bag i).length ≤ 200 ∧ ∀ b ∈ P.bag i, b.length ≤ 700
  sent : ∀ k, (aGet k P.sent).length ≤ n
  told : ∀ k, (aGet k P.told).length ≤ 16 * n

theorem PrI.m {n m : Nat} {P : Pr} (I : PrI n P) (h : n ≤ m) : PrM m P :=
  ⟨fun i hi => (I.t i hi).mono h, fun i hi => by rw [I.o i hi]; simp, I.bag, fun k => by have := I.sent k; omega, fun k => by have := I.told k; omega⟩
theorem PrM.ou {n : Nat} {P : Pr} (M : PrM n P) : OuB P := fun i hi => ⟨(M.t i hi).me.1, by have := (M.o i hi).1; omega, by have := (M.bag i hi).1; omega⟩
theorem PrI.turn {n : Nat} {P : Pr} (I : PrI n P) {i : Nat} (hi : i < 2) {T : Tn} (t : TI (n + 1) T) (s : Said 66 (P.t i) T) : PrM (n + 1) (P.turn i T) := by
  have M := I.m (m := n + 1) (by omega)
  refine ⟨fun j hj => ?_, fun j hj => ?_, M.bag, M.sent, M.told⟩
  · by_cases e : j = i
    · subst e
      show TI (n + 1) (set1 P.t j T j)
      rw [set1usame]
      exact t
    · show TI (n + 1) (set1 P.t i T j)
      rw [set1une _ _ e]
      exact M.t j hj
  · by_cases e : j = i
    · subst e
      show (set1 P.t j T j).out.length ≤ 66 ∧ ∀ b ∈ (set1 P.t j T j).out, b.length ≤ 700
      rw [set1usame]
      have o := I.o j hj
      exact ⟨by have := s.1; rw [o] at this; simpa using this, s.2 (by rw [o]; simp)⟩
    · show (set1 P.t i T j).out.length ≤ 66 ∧ ∀ b ∈ (set1 P.t i T j).out, b.length ≤ 700
      rw [set1une _ _ e]
      exact M.o j hj
theorem PrM.lose {n : Nat} {P : Pr} (M : PrM n P) (i at' : Nat) : PrM n (P.lose i at') := by
  refine ⟨M.t, M.o, fun j hj => ?_, M.sent, M.told⟩
  by_cases e : j = i
  · subst e
    show (set1 P.bag j _ j).length ≤ 200 ∧ ∀ b ∈ set1 P.bag j _ j, b.length ≤ 700
    rw [set1usame]
    have := M.bag j hj
    exact ⟨Nat.le_trans (List.length_eraseIdx_le _ _) this.1, fun b hb => this.2 b (List.mem_of_mem_eraseIdx hb)⟩
  · show (set1 P.bag i _ j).length ≤ 200 ∧ ∀ b ∈ set1 P.bag i _ j, b.length ≤ 700
    rw [set1une _ _ e]
    exact M.bag j hj
theorem PrI.act {n : Nat} {P : Pr} (I : PrI n P) (A : Ac1) : PrM (n + 1) (P.act A).1 := by
  have hi := A.i_lt
  have t := I.t A.i hi
  have M := I.m (m := n + 1) (by omega)
  unfold Pr.act
  split
  · unfold Pr.sends
    have M2 := I.turn hi (t.send A.b) ((said_send t A.b).mono (by omega))
    dsimp only
    split
    · obtain ⟨m1, m2, m3, m4, m5⟩ := M2
      refine ⟨m1, m2, m3, fun k => ?_, m5⟩
      have := aGet_add_len k (((P.t A.i).send A.b).1.me, ((P.t A.i).send A.b).1.you, ((1 - A.i : Nat) : Int)) [A.b] P.sent
      have := I.sent k
      simp only [List.length_singleton] at *
      omega
    · exact M2
  · split
    · exact I.turn hi t.tick (said_tick t)
    · split
      · refine I.turn hi (TI.fresh ?_) ⟨by simp [Tn.fresh], by simp [Tn.fresh]⟩
        have := t.me
        omega
      · split
        · exact I.turn hi (t.hint _) ((said_hint _ _).mono (by omega))
        · split
          · exact M
          · split
            · exact M.lose _ _
            · unfold Pr.take Pr.got
              have tk := take1ut P A.i (A.n P) A.stay
              have ts := take1usent P A.i (A.n P) A.stay
              have tt := take1utold P A.i (A.n P) A.stay
              have M1 : PrM (n + 1) (P.take1 A.i (A.n P) A.stay) := by
                cases A.stay
                · exact M.lose _ _
                · exact M
              have M2 := I.turn hi (t.take ((P.bag A.i).getD (A.n P) [])) ((said_take t ((P.bag A.i).getD (A.n P) [])).mono (by omega))
              have hf := take_few t ((P.bag A.i).getD (A.n P) [])
              refine ⟨?_, ?_, M1.bag, M1.sent, fun k => ?_⟩
              · dsimp only
                rw [tk]
                exact M2.t
              · dsimp only
                rw [tk]
                exact M2.o
              · dsimp only
                rw [tk, tt]
                refine Nat.le_trans (aGet_add_len _ _ _ _) ?_
                have := I.told k
                omega
theorem addTo_mem {x : List UInt8} : ∀ (l b : List (List UInt8)), x ∈ addTo b l → x ∈ b ∨ x ∈ l
  | [], b, h => .inl h
  | y :: l, b, h => by
    rcases addTo_mem l _ h with g | g
    · split at g
      · simp only [List.mem_append, List.mem_singleton] at g
        rcases g with g | rfl
        · exact .inl g
        · exact .inr (by simp)
      · exact .inl g
    · exact .inr (by simp [g])
theorem PrM.outS {n : Nat} {P : Pr} (M : PrM n P) {i : Nat} (hi : i < 2) : PrM n (P.outS i) ∧ ((P.outS i).t i).out = [] ∧ ((P.outS i).t (1 - i)).out = (P.t (1 - i)).out := by
  have hne : 1 - i ≠ i := by omega
  refine ⟨⟨fun j hj => ?_, fun j hj => ?_, fun j hj => ?_, M.sent, M.told⟩, ?_, ?_⟩
  · by_cases e : j = i
    · subst e
      show TI n (set1 P.t j _ j)
      rw [set1usame]
      obtain ⟨me, ep, ti, si, nx, wa, qu, wl, ex, ek, er⟩ := M.t j hj
      exact ⟨me, ep, ti, si, nx, wa, qu, wl, ex, ek, er⟩
    · show TI n (set1 P.t i _ j)
      rw [set1une _ _ e]
      exact M.t j hj
  · by_cases e : j = i
    · subst e
      show (set1 P.t j _ j).out.length ≤ 66 ∧ ∀ b ∈ (set1 P.t j _ j).out, b.length ≤ 700
      rw [set1usame]
      simp
    · show (set1 P.t i _ j).out.length ≤ 66 ∧ ∀ b ∈ (set1 P.t i _ j).out, b.length ≤ 700
      rw [set1une _ _ e]
      exact M.o j hj
  · by_cases e : j = 1 - i
    · subst e
      show (set1 P.bag (1 - i) _ (1 - i)).length ≤ 200 ∧ ∀ b ∈ set1 P.bag (1 - i) _ (1 - i), b.length ≤ 700
      rw [set1usame]
      have h1 := addTo_len (P.t i).out (P.bag (1 - i))
      have h2 := M.bag (1 - i) hj
      refine ⟨by omega, fun b hb => ?_⟩
      rcases addTo_mem _ _ hb with g | g
      · exact h2.2 b g
      · exact (M.o i hi).2 b g
    · show (set1 P.bag (1 - i) _ j).length ≤ 200 ∧ ∀ b ∈ set1 P.bag (1 - i) _ j, b.length ≤ 700
      rw [set1une _ _ e]
      exact M.bag j hj
  · show (set1 P.t i _ i).out = []
    rw [set1usame]
  · show (set1 P.t i _ (1 - i)).out = _
    rw [set1une _ _ hne]
theorem PrM.outs {n : Nat} {P : Pr} (M : PrM n P) : PrI n P.outs := by
  obtain ⟨M1, o1, o2⟩ := M.outS (i := 0) (by omega)
  obtain ⟨M2, o3, o4⟩ := M1.outS (i := 1) (by omega)
  refine ⟨M2.t, fun i hi => ?_, M2.bag, M2.sent, M2.told⟩
  rcases lt2 hi with rfl | rfl
  · show (((P.outS 0).outS 1).t 0).out = []
    rw [o4, o1]
  · exact o3
theorem PrI.does {n : Nat} {P : Pr} (I : PrI n P) (A : Ac1) : PrI (n + 1) (P.does A).1 := (I.act A).outs
theorem PrI.begun : PrI 0 Pr.begun := by
  refine ⟨fun i hi => ?_, fun i hi => ?_, fun i hi => ?_, fun k => ?_, fun k => ?_⟩
  · rcases lt2 hi with rfl | rfl
    · exact TI.fresh (by omega)
    · exact TI.fresh (by omega)
  · rcases lt2 hi with rfl | rfl <;> rfl
  · simp [Pr.begun]
  · simp [Pr.begun, aGet]
  · simp [Pr.begun, aGet]
theorem PrI.dob {n : Nat} {P : Pr} (I : PrI n P) (h : n ≤ 20000) : DoB P := by
  refine ⟨fun i hi => ?_, fun i hi => ?_, fun k => ?_, fun k => ?_⟩
  · have t := I.t i hi
    have el := t.el
    obtain ⟨me, ep, ti, si, nx, wa, qu, wl, ex, ek, er⟩ := t
    refine ⟨by omega, by omega, by omega, by omega, ex, by omega, by omega, fun s hs => ?_, by omega, by rw [I.o i hi]; simp, fun b hb => by have := qu b hb; omega⟩
    have := wa s hs
    omega
  · have := I.bag i hi
    exact ⟨this.1, fun b hb => by have := this.2 b hb; omega⟩
  · have := I.sent k; omega
  · have := I.told k; omega

/-- The first acts, one after another. -/
def Pr.run (P : Pr) : List Ac1 → Pr
  | [] => P
  | A :: l => Pr.run (P.does A).1 l
theorem run_snoc (P : Pr) (l : List Ac1) (A : Ac1) : P.run (l ++ [A]) = ((P.run l).does A).1 := by
  induction l generalizing P with
  | nil => rfl
  | cons B l ih => exact ih _
theorem run_I {n : Nat} {P : Pr} (I : PrI n P) (l : List Ac1) : PrI (n + l.length) (P.run l) := by
  induction l generalizing n P with
  | nil => exact I
  | cons B l ih =>
    have := ih (I.does B)
    rw [show n + 1 + l.length = n + (B :: l).length from by simp; omega] at this
    exact this

theorem PrI.mono {n m : Nat} {P : Pr} (I : PrI n P) (h : n ≤ m) : PrI m P :=
  ⟨fun i hi => (I.t i hi).mono h, I.o, I.bag, fun k => by have := I.sent k; omega, fun k => by have := I.told k; omega⟩

end Go.Am
