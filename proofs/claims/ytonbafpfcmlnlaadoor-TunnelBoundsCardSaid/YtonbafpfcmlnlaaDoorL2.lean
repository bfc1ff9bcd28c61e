/- Parts of the proof, one after another; what each part shows stands at its head. No conditions. -/
import Derived.Test.YtonbafpfcmlnlaaDoorL1
import Derived.ChangeKeysEq
import Derived.MapKept
import Derived.Laws.Cover3
import Derived.Laws.Tables
set_option linter.all false

/- The abstract machine, 10: append, make, literals. -/
namespace Go.Am
variable {P : Program} {G : Nat → V} {ρ : Ren} {h : Heap} {w : World} {N : Nat} {a : Tm} {act : Act}

theorem run_app_room {t ty e : TypeId} {i : TypeInfo} (ht : P.underlying t = some (.slice e)) (hi : P.info? e = some i) (base : Option Addr) (sLen sCap : Nat) (xb : Option Addr) (m c : Nat) (news : List Value)
    (hf : (Builtin.firstCells i.size m (.slice xb m c)).run P w = .ok news.toArray w) (hroom : sLen + m ≤ sCap) (w' : World)
    (hst : ∀ b, base = some b → (storeCells (b.add (sLen * i.size)) news).run P w = .ok () w') (hn : base = none → w' = w) :
    (Builtin.append_ #[t, t] ty #[.slice base sLen sCap, .slice xb m c]).run P w = .ok (.slice base (sLen + m) sCap) w' := by
  cases base with
  | none => simp [Builtin.append_, run_underlying ht, sizeOf, typeInfo, hi, Builtin.lenOf, hroom, hf, hn rfl]
  | some b => simp [Builtin.append_, run_underlying ht, sizeOf, typeInfo, hi, Builtin.lenOf, hroom, hf, hst b rfl]

theorem run_app_grow {t ty e : TypeId} {i : TypeInfo} {z : Value} (ht : P.underlying t = some (.slice e)) (hi : P.info? e = some i) (hz : i.zero = some z) (base : Option Addr) (sLen sCap : Nat) (xb : Option Addr) (m c : Nat) (olds news : List Value)
    (hfo : (Builtin.firstCells i.size sLen (.slice base sLen sCap)).run P w.drew = .ok olds.toArray w.drew) (hf : (Builtin.firstCells i.size m (.slice xb m c)).run P w.drew = .ok news.toArray w.drew)
    (hg : sCap < sLen + m) (h63 : ((sLen + m : Nat) : Int) ≤ 9223372036854775807) (hfit : Builtin.nextslicecap (sLen + m) sCap * i.bytes ≤ 281474976710656) :
    (Builtin.append_ #[t, t] ty #[.slice base sLen sCap, .slice xb m c]).run P w =
      .ok (.slice (some ⟨w.heap.size, 0, none⟩) (sLen + m) (grownCap w (sLen + m) sCap e))
        (w.drew.alloc (.cells (olds.toArray ++ news.toArray ++ Builtin.zeroCells z.cells (grownCap w (sLen + m) sCap e - (sLen + m))) e)) := by
  have hn : ¬ (sLen + m ≤ sCap) := by omega
  have h63' : ¬ (9223372036854775807 < ((sLen : Int) + (m : Int))) := by omega
  have h48' : ¬ (281474976710656 < Builtin.nextslicecap (sLen + m) sCap * i.bytes) := by omega
  simp [Builtin.append_, run_underlying ht, sizeOf, typeInfo, zeroValue, hi, hz, Builtin.lenOf, hn, h63', h48', Question.forced, hf, hfo, newRow, grownCap]
  congr 2
  apply Array.ext'
  simp [List.append_assoc]

theorem flat_append (xs ys : List V) : (xs ++ ys).flatMap V.cells = xs.flatMap V.cells ++ ys.flatMap V.cells := by simp

theorem szOk_eq {sz s : Nat} {ys : List V} (hs : ∀ y ∈ ys, y.sane = true ∧ y.cells.length = s) (h0 : szOk sz ys = true) : ys = [] ∨ s = sz := by
  cases ys with
  | nil => exact .inl rfl
  | cons y ys =>
    have := (hs y (by simp)).2
    simp [szOk] at h0
    exact .inr (by omega)

theorem sound_append (R : Rel G ρ h w) {t e : TypeId} {i : TypeInfo} {z : V} {x y : Operand} {c : Call} {b d v : V} {h' : Heap} {o : Oper} (ho : o.op = .call c) (hc : c.callee = .builtin .append) (hargs : c.args = #[x, y]) (hat : c.argTypes = #[t, t])
    (ht : P.underlying t = some (.slice e)) (hi : P.info? e = some i) (hz : zeroT P e = some z) (hzl : z.cells.length = i.size)
    (hx : RV ρ w b (act.eval x)) (hy : RV ρ w d (act.eval y)) (hs : appendV h e i.size i.bytes b d = some (v, h')) : Snd P G ρ w act o v h' := by
  obtain ⟨i', zv, hi', hzv, hcz⟩ := zeroT_some hz
  rw [hi] at hi'
  injection hi' with hi'
  subst hi'
  have hzs : zv.cells.size = i.size := by
    obtain ⟨r, sn⟩ := cV_sound (ρ := ρ) (w := w) hcz
    rw [(r.cells sn).1, hzl]
  unfold appendV at hs
  generalize hyl : readL h d = yl at hs
  cases yl with
  | none => cases hs
  | some ys =>
  obtain ⟨s, yb, m, cap, eyv, rd⟩ := readL_rd R hyl hy
  have key : ∀ (base : Option Addr) (sLen sCap : Nat) (u : Value) (w' : World) (ρ' : Ren), act.eval x = .slice base sLen sCap → (Builtin.append_ #[t, t] o.type #[.slice base sLen sCap, .slice yb m cap]).run P w = .ok u w' →
      Step ρ w ρ' w' → Rel G ρ' h' w' → RV ρ' w' v u → Snd P G ρ w act o v h' := by
    intro base sLen sCap u w' ρ' e1 e2 e3 e4 e5
    refine ⟨.value u, u, w', ρ', ?_, rfl, e3, e4, e5⟩
    simp [execOp, ho, resolve, hc, hargs, hat, invoke, builtin, e1, eyv, e2]
  have hsane' : szOk i.size ys = true → ∀ u ∈ ys, u.sane = true ∧ u.cells.length = i.size := fun e0 u hu => by
    refine ⟨(rd.sane u hu).1, ?_⟩
    rcases szOk_eq rd.sane e0 with rfl | rfl
    · simp at hu
    · exact (rd.sane u hu).2
  obtain ⟨news, nl, n1, nf, nv⟩ := rd.cells (P := P)
  have nl' : szOk i.size ys = true → news.length = m * i.size ∧ ∀ w', w'.heap = w.heap → ∀ l c', (Builtin.firstCells i.size m (.slice yb l c')).run P w' = .ok news.toArray w' := fun e0 => by
    rcases szOk_eq rd.sane e0 with rfl | rfl
    · have hm : m = 0 := rd.len
      subst hm
      have : news = [] := List.eq_nil_of_length_eq_zero (by simpa using nl)
      subst this
      refine ⟨by simp, fun w' _ l c' => ?_⟩
      cases yb with
      | none => exact run_firstCells_none ..
      | some _ => simp [Builtin.firstCells, loadCells, loadCellsFrom]
    · exact ⟨nl, nf⟩
  -- a new row of 'zs', whose cells begin with 'olds ++ news'
  have fresh : ∀ (hh : Heap) (_ : Rel G ρ hh w) (zs : List V) (olds : List Value) (cap' : Nat) (n : Nat), zs.length = n → n ≤ cap' → (∀ u ∈ zs, u.sane = true ∧ u.cells.length = i.size) → olds.length + news.length = n * i.size →
      (∀ (j : Nat) (u : V), (zs.flatMap V.cells)[j]? = some u → ∃ q : Value, (olds ++ news)[j]? = some q ∧ RV ρ w u q) →
      ∃ ρ', Step ρ w ρ' (w.drew.alloc (.cells (olds.toArray ++ news.toArray ++ Builtin.zeroCells zv.cells (cap' - n)) e)) ∧ Rel G ρ' (hh.alloc (.arr e i.size zs)) (w.drew.alloc (.cells (olds.toArray ++ news.toArray ++ Builtin.zeroCells zv.cells (cap' - n)) e)) ∧
        RV ρ' (w.drew.alloc (.cells (olds.toArray ++ news.toArray ++ Builtin.zeroCells zv.cells (cap' - n)) e)) (.slc hh.next 0 n n) (.slice (some ⟨w.heap.size, 0, none⟩) n cap') := by
    intro hh RR zs olds cap' n e1 e2 e3 e4 e5
    obtain ⟨ρ', st, R', q⟩ := RR.alloc e i.size zs (olds.toArray ++ news.toArray ++ Builtin.zeroCells zv.cells (cap' - n)) (w.drew.alloc (.cells (olds.toArray ++ news.toArray ++ Builtin.zeroCells zv.cells (cap' - n)) e)) rfl e3 (fun j u hu => by
      obtain ⟨q, k1, k2⟩ := e5 j u hu
      refine ⟨q, ?_, k2⟩
      have hlt := (List.getElem?_eq_some_iff.1 k1).1
      rw [Array.getElem?_append_left (by simpa using hlt)]
      simpa using k1) rfl rfl rfl
    refine ⟨ρ', st, R', ?_⟩
    have := RV.slc (ρ := ρ') (w := w.drew.alloc (.cells (olds.toArray ++ news.toArray ++ Builtin.zeroCells zv.cells (cap' - n)) e)) hh.next 0 n n w.heap.size i.size _ cap' q (Nat.le_refl _) e2 (by
      simp only [Array.size_append, List.size_toArray, size_zeroCells, hzs, Nat.zero_add]
      have : n * i.size + (cap' - n) * i.size = cap' * i.size := by rw [← Nat.add_mul]; congr 1; omega
      omega)
    simpa using this
  split at hs
  · -- nothing was there
    rename_i _ ys' q
    injection q with q
    subst q
    split at hs
    · rename_i hcond
      obtain ⟨k1, k2, k3⟩ := hcond
      obtain ⟨nl2, nf2⟩ := nl' k3
      generalize hu : act.eval x = u at hx
      cases hx with
      | nil base =>
        split at hs
        · rename_i hy0
          injection hs with hs
          injection hs with hs1 hs2
          subst hs1 hs2 hy0
          have hm : m = 0 := rd.len
          subst hm
          have : news = [] := List.eq_nil_of_length_eq_zero (by simpa using nl)
          subst this
          exact key base 0 0 _ w ρ hu (run_app_room ht hi base 0 0 yb 0 cap [] (nf2 w rfl 0 cap) (Nat.le_refl _) w (fun b _ => by simp [storeCells]) (fun _ => rfl)) (Step.refl _ _) R (.nil _)
        · rename_i hy0
          injection hs with hs
          injection hs with hs1 hs2
          subst hs1 hs2
          have hm : 0 < m := by rw [rd.len]; exact List.length_pos_iff.2 hy0
          have hfit : Builtin.nextslicecap (0 + m) 0 * i.bytes ≤ 281474976710656 := growslice_fits (by omega) (by rw [rd.len]; simp only [Nat.zero_add]; omega)
          have hrun := run_app_grow (P := P) (w := w) (ty := o.type) ht hi hzv base 0 0 yb m cap [] news (by cases base <;> simp [Builtin.firstCells, loadCells, loadCellsFrom]) (nf2 w.drew rfl m cap) (by omega) (by rw [rd.len]; omega) hfit
          obtain ⟨ρ', st, R', r⟩ := fresh h R ys [] (grownCap w (0 + m) 0 e) m rd.len.symm (by have := grownCap_ge w (0 + m) 0 e; omega) (hsane' k3) (by simpa using nl2) (fun j u hu => by simpa using nv j u hu)
          simp only [Nat.zero_add] at hrun r st R'
          exact key base 0 0 _ _ ρ' hu hrun st R' (by rw [← rd.len]; exact r)
    · cases hs
  · -- behind what was there
    rename_i _ ys' o' len room q
    injection q with q
    subst q
    split at hs
    · rename_i ty' sz' xs hob
      split at hs
      · rename_i hcond
        obtain ⟨e1, e2, k1, k2, k3, k4⟩ := hcond
        subst e1 e2
        obtain ⟨nl2, nf2⟩ := nl' k3
        have hsn := hsane' k3
        generalize hu : act.eval x = u at hx
        cases hx with
        | slc _ _ _ _ r s' nb cc hρ hl hr hnn =>
          obtain ⟨r', nb', p1, hnF, hss, cells, hc1, hc2, hv⟩ := R.arr o' ty' i.size xs hob
          rw [hρ] at p1
          injection p1 with p1
          injection p1 with p1 p2
          injection p2 with p2 p3
          subst p1 p2 p3
          have hx2 : ∀ u ∈ xs, u.cells.length = i.size := fun u hu => (hss u hu).2
          have hfx := flat_length xs i.size hx2
          have hfy := flat_length ys i.size (fun u hu => (hsn u hu).2)
          simp only [Nat.zero_mul, Nat.zero_add] at hu hnn
          -- the row's own first cells
          have hlen : len * i.size ≤ xs.length * i.size := Nat.mul_le_mul_right i.size k4
          -- in place
          have place : ∀ (zs : List V), len + m ≤ cc → (∀ u ∈ zs, u.sane = true ∧ u.cells.length = i.size) →
              (∀ (j : Nat) (u : V), (zs.flatMap V.cells)[j]? = some u → if len * i.size ≤ j ∧ j < len * i.size + m * i.size then (ys.flatMap V.cells)[j - len * i.size]? = some u else (xs.flatMap V.cells)[j]? = some u) →
              ∃ cells' : Array Value, (Builtin.append_ #[t, t] o.type #[.slice (some ⟨r, 0, none⟩) len cc, .slice yb m cap]).run P w = .ok (.slice (some ⟨r, 0, none⟩) (len + m) cc) (w.setCells r (len * i.size) news) ∧
                (w.setCells r (len * i.size) news).heap[r]? = some (.cells cells' ty' (0, 0)) ∧ cells'.size = nb ∧
                (∀ (j : Nat) (u : V), (zs.flatMap V.cells)[j]? = some u → ∃ q : Value, cells'[j]? = some q ∧ RV ρ w u q) := by
            intro zs g1 g2 g3
            have hle : len * i.size + m * i.size ≤ nb := by
              have : (len + m) * i.size ≤ cc * i.size := Nat.mul_le_mul_right i.size g1
              rw [Nat.add_mul] at this
              omega
            obtain ⟨c', q1, q2, q3⟩ := setCells_heap r news (len * i.size) w cells ty' (0, 0) hc1 (by omega)
            have hst := run_storeCells_cells (P := P) r (len * i.size) news 0 w (fun j hj => by
              rw [cell_at hc1, Array.getElem?_eq_getElem (by omega)]
              rfl) (fun j _ => by simp [World.frozen?, hc1]) n1
            simp only [Nat.add_zero] at hst
            refine ⟨c', run_app_room ht hi _ len cc yb m cap news (nf2 w rfl m cap) g1 _ (fun b hb => by
              injection hb with hb
              subst hb
              rw [Addr.add_mid, Nat.zero_add]
              exact hst) (fun hb => by cases hb), q1, by omega, fun j u hu => ?_⟩
            have := g3 j u hu
            rw [q3 j, nl2]
            split at this
            · rename_i hj
              obtain ⟨q, k1, k2⟩ := nv _ _ this
              exact ⟨q, by rw [if_pos hj]; exact k1, k2⟩
            · rename_i hj
              obtain ⟨q, k1, k2⟩ := hv _ _ this
              exact ⟨q, by rw [if_neg hj]; exact k1, k2⟩
          obtain ⟨pz1, pz2, pz3, pz4⟩ := setCells_rest r news (len * i.size) w
          have hmul : (len + m) * i.size = len * i.size + m * i.size := Nat.add_mul ..
          split at hs
          · rename_i hin
            injection hs with hs
            injection hs with hs1 hs2
            obtain ⟨q1, q2⟩ := hin
            have hml : m = ys.length := rd.len
            have hmul3 : (len + m) * i.size ≤ xs.length * i.size := Nat.mul_le_mul_right i.size (by omega)
            have hzs2 : ∀ u ∈ xs.take len ++ ys ++ xs.drop (len + ys.length), u.sane = true ∧ u.cells.length = i.size := fun u hu => by
              rw [List.mem_append, List.mem_append] at hu
              rcases hu with (hu | hu) | hu
              · exact hss u (List.mem_of_mem_take hu)
              · exact hsn u hu
              · exact hss u (List.mem_of_mem_drop hu)
            obtain ⟨c', p1, p2, p3, p4⟩ := place (xs.take len ++ ys ++ xs.drop (len + ys.length)) (by omega) hzs2 (fun j u hu => by
              rw [flat_append, flat_append, flat_take xs i.size hx2, flat_drop xs i.size hx2, ← hml] at hu
              have tl : ((xs.flatMap V.cells).take (len * i.size)).length = len * i.size := by rw [List.length_take, hfx]; omega
              by_cases hj1 : j < len * i.size
              · rw [if_neg (by omega)]
                rw [List.getElem?_append_left (by rw [List.length_append, tl, hfy]; omega), List.getElem?_append_left (by omega), List.getElem?_take, if_pos hj1] at hu
                exact hu
              · by_cases hj2 : j < len * i.size + m * i.size
                · rw [if_pos (by omega)]
                  rw [List.getElem?_append_left (by rw [List.length_append, tl, hfy, ← hml]; omega), List.getElem?_append_right (by omega), tl] at hu
                  exact hu
                · rw [if_neg (by omega)]
                  rw [List.getElem?_append_right (by rw [List.length_append, tl, hfy, ← hml]; omega), List.length_append, tl, hfy, ← hml, List.getElem?_drop] at hu
                  rw [hmul, show len * i.size + m * i.size + (j - (len * i.size + m * i.size)) = j from by omega] at hu
                  exact hu)
            obtain ⟨st, R'⟩ := R.setArr o' ty' i.size xs _ r nb c' _ hob hρ p3 p2 (fun k hk => setCells_other r news _ w k hk) pz1 hzs2 p4 pz2 pz3 pz4
            refine key _ len cc _ _ ρ hu p1 st (by rw [← hs2]; exact R') ?_
            rw [← hs1, ← hml]
            have := RV.slc (ρ := ρ) (w := w.setCells r (len * i.size) news) o' 0 (len + m) room r i.size nb cc hρ (by omega) hr (by simpa using hnn)
            simpa using this
          · rename_i hin
            split at hs
            · rename_i hend
              injection hs with hs
              injection hs with hs1 hs2
              have hml : m = ys.length := rd.len
              have hzs2 : ∀ u ∈ xs ++ ys, u.sane = true ∧ u.cells.length = i.size := fun u hu => by
                rw [List.mem_append] at hu
                rcases hu with hu | hu
                · exact hss u hu
                · exact hsn u hu
              by_cases hroom : len + m ≤ cc
              · obtain ⟨c', p1, p2, p3, p4⟩ := place (xs ++ ys) hroom hzs2 (fun j u hu => by
                  rw [flat_append] at hu
                  by_cases hj1 : j < len * i.size
                  · rw [if_neg (by omega)]
                    rw [List.getElem?_append_left (by rw [hfx, ← hend]; exact hj1)] at hu
                    exact hu
                  · rw [List.getElem?_append_right (by rw [hfx, ← hend]; omega), hfx, ← hend] at hu
                    have := (List.getElem?_eq_some_iff.1 hu).1
                    rw [hfy, ← hml] at this
                    rw [if_pos (by omega)]
                    exact hu)
                obtain ⟨ρ', st, R', q⟩ := R.moveArr o' ty' i.size xs _ r nb c' _ hob hρ p3 p2 (fun k hk => setCells_other r news _ w k hk) pz1 hzs2 p4 pz2 pz3 pz4
                refine key _ len cc _ _ ρ' hu p1 st (by rw [← hs2]; exact R') ?_
                rw [← hs1, ← hml]
                have := RV.slc (ρ := ρ') (w := w.setCells r (len * i.size) news) h.next 0 (len + m) (len + m) r i.size nb cc q (Nat.le_refl _) hroom (by simpa using hnn)
                simpa using this
              · have hbytes : (len + m) * i.bytes ≤ 140737488355328 := by rw [hml]; omega
                have hfit : Builtin.nextslicecap (len + m) cc * i.bytes ≤ 281474976710656 := growslice_fits (by omega) hbytes
                -- the cells that were there
                obtain ⟨olds, ol, _, of, ov⟩ := (show Rd ρ w xs i.size (some ⟨r, 0, none⟩) len cc from ⟨hend, by omega, hss, fun _ => ⟨r, 0, rfl, fun j u hu => by
                  obtain ⟨q, k1, k2⟩ := hv j u hu
                  exact ⟨q, by rw [cell_at hc1, Nat.zero_add]; exact k1, k2⟩⟩⟩).cells (P := P)
                have hrun := run_app_grow (P := P) (w := w) (ty := o.type) ht hi hzv (some ⟨r, 0, none⟩) len cc yb m cap olds news (of w.drew rfl len cc) (nf2 w.drew rfl m cap) (by omega) (by rw [hml]; omega) hfit
                obtain ⟨ρ', st, R', q⟩ := fresh (h.kill o') (R.kill o') (xs ++ ys) olds (grownCap w (len + m) cc ty') (len + m) (by simp; omega) (grownCap_ge w (len + m) cc ty') hzs2 (by rw [ol, nl2, Nat.add_mul]) (fun j u hu => by
                  rw [flat_append] at hu
                  by_cases hj1 : j < len * i.size
                  · rw [List.getElem?_append_left (by rw [hfx, ← hend]; exact hj1)] at hu
                    obtain ⟨q, k1, k2⟩ := ov j u hu
                    exact ⟨q, by rw [List.getElem?_append_left (by omega)]; exact k1, k2⟩
                  · rw [List.getElem?_append_right (by rw [hfx, ← hend]; omega), hfx, ← hend] at hu
                    obtain ⟨q, k1, k2⟩ := nv _ u hu
                    exact ⟨q, by rw [List.getElem?_append_right (by omega), ol]; exact k1, k2⟩)
                refine key _ len cc _ _ ρ' hu hrun st (by rw [← hs2]; exact R') ?_
                rw [← hs1, ← hml]
                exact q
            · cases hs
      · cases hs
    · cases hs
  · cases hs

end Go.Am

/- The abstract machine, 11: make, literals, and other operations on rows. -/
namespace Go.Am
variable {P : Program} {G : Nat → V} {ρ : Ren} {h : Heap} {w : World} {N : Nat} {a : Tm} {act : Act}

theorem flat_replicate (z : V) (n j : Nat) (hj : j < n * z.cells.length) : ((List.replicate n z).flatMap V.cells)[j]? = z.cells[j % z.cells.length]? := by
  have hs : ∀ x ∈ List.replicate n z, x.cells.length = z.cells.length := fun x hx => by rw [List.eq_of_mem_replicate hx]
  have hp : 0 < z.cells.length := by
    rcases Nat.eq_zero_or_pos z.cells.length with e | e
    · rw [e] at hj; omega
    · exact e
  have hdiv : j / z.cells.length < n := Nat.div_lt_of_lt_mul (by rw [Nat.mul_comm]; exact hj)
  have := flat_at (List.replicate n z) z.cells.length hs (j / z.cells.length) z (by simp [hdiv]) (j % z.cells.length) (Nat.mod_lt _ hp)
  rw [← this]
  congr 1
  rw [Nat.mul_comm, Nat.div_add_mod]

theorem natOf_some {v : V} {n : Nat} {x : Value} (e : natOf v = some n) (r : RV ρ w v x) : x = .int .i64 (n : Int) ∧ (n : Int) ≤ 9223372036854775807 := by
  unfold natOf at e
  split at e
  · split at e
    · rename_i m hm
      injection e with e
      rw [r.int_inv]
      exact ⟨by rw [← e]; congr 1; omega, by omega⟩
    · cases e
  · cases e

theorem wrap_nat {n : Nat} (hn : (n : Int) ≤ 9223372036854775807) : IntKind.i64.wrap (n : Int) = (n : Int) := by
  simp [IntKind.wrap, IntKind.bits, IntKind.signed]
  omega

theorem sound_mkslice (R : Rel G ρ h w) {t e : TypeId} {i : TypeInfo} {z : V} {l c : Operand} {b d v : V} {h' : Heap} {o : Oper} (ho : o.op = .makeSlice t l c)
    (ht : P.underlying t = some (.slice e)) (hi : P.info? e = some i) (hz : zeroT P e = some z)
    (hl : RV ρ w b (act.eval l)) (hc : RV ρ w d (act.eval c)) (hs : stepI G a h (.mkslice e i.size i.bytes z (.c b) (.c d)) = some (v, h')) : Snd P G ρ w act o v h' := by
  obtain ⟨i', zv, hi', hzv, hcz⟩ := zeroT_some hz
  rw [hi] at hi'
  injection hi' with hi'
  subst hi'
  obtain ⟨zr, zs⟩ := cV_sound (ρ := ρ) (w := w) hcz
  obtain ⟨zc, zv'⟩ := zr.cells zs
  simp only [stepI, Opd.ev] at hs
  split at hs
  · rename_i n m hn hm
    obtain ⟨el, nl⟩ := natOf_some hn hl
    obtain ⟨ec, nc⟩ := natOf_some hm hc
    split at hs
    · rename_i hcond
      obtain ⟨k1, k2, k3, k4⟩ := hcond
      injection hs with hs
      injection hs with hs1 hs2
      subst hs1 hs2
      have hb : ¬ ((281474976710656 : Int) < (i.bytes : Int) * (m : Int)) := by
        rw [Int.mul_comm]
        omega
      have hb2 : ¬ ((m : Int) < 0) := by omega
      have hb3 : ¬ ((n : Int) < 0) := by omega
      have hb4 : ¬ (m < n) := by omega
      -- the cells
      have hrun : ∃ cells : Array Value, (execOp act.eval o).run P w = .ok (.value (.slice (some ⟨w.heap.size, 0, none⟩) n m)) (w.alloc (.cells cells e)) ∧ cells.size = m * i.size ∧
          ∀ j, j < m * i.size → cells[j]? = some (zv.cells[j % i.size]!) := by
        by_cases h0 : m * i.size = 0
        · refine ⟨#[], ?_, by simp [h0], fun j hj => by omega⟩
          simp [execOp, ho, Instr.makeSlice, run_underlying ht, el, ec, asInt, asIntOf, typeInfo, hi, wrap_nat nl, wrap_nat nc, hb, hb2, hb3, hb4, run_sizeOf hi, h0, newRow, show Array.range 0 = #[] from rfl]
        · refine ⟨(Array.range (m * i.size)).map (fun j => zv.cells[j % zv.cells.size]!), ?_, by simp, fun j hj => ?_⟩
          · simp [execOp, ho, Instr.makeSlice, run_underlying ht, el, ec, asInt, asIntOf, typeInfo, hi, wrap_nat nl, wrap_nat nc, hb, hb2, hb3, hb4, run_sizeOf hi, h0, newRow, run_zeroValue hi hzv]
          · have : zv.cells.size = i.size := by rw [zc, k3]
            simp [hj, this]
      obtain ⟨cells, q1, q2, q3⟩ := hrun
      have hsn : ∀ x ∈ List.replicate n z, x.sane = true ∧ x.cells.length = i.size := fun x hx => by rw [List.eq_of_mem_replicate hx]; exact ⟨k4, k3⟩
      have hnm : n * i.size ≤ m * i.size := Nat.mul_le_mul_right _ k1
      obtain ⟨ρ', st, R', q⟩ := R.alloc e i.size (List.replicate n z) cells (w.alloc (.cells cells e)) rfl hsn (fun j u hu => by
        have hj := (List.getElem?_eq_some_iff.1 hu).1
        rw [flat_length _ _ (fun x hx => (hsn x hx).2), List.length_replicate] at hj
        have hp : 0 < i.size := by
          rcases Nat.eq_zero_or_pos i.size with e0 | e0
          · rw [e0] at hj; omega
          · exact e0
        rw [flat_replicate z n j (by rw [k3]; exact hj), k3] at hu
        refine ⟨_, q3 j (by omega), ?_⟩
        have := zv' _ _ hu
        have hlt : j % i.size < zv.cells.size := by rw [zc, k3]; exact Nat.mod_lt _ hp
        rw [getElem!_pos zv.cells _ hlt]
        simpa [Array.getD, hlt] using this) rfl rfl rfl
      refine ⟨_, _, _, ρ', q1, rfl, st, R', ?_⟩
      have := RV.slc (ρ := ρ') (w := w.alloc (.cells cells e)) h.next 0 n n w.heap.size i.size _ m q (Nat.le_refl _) k1 (by rw [q2]; simp)
      simpa using this
    · cases hs
  · cases hs

theorem sound_len (R : Rel G ρ h w) {t e : TypeId} {x : Operand} {c : Call} {b : V} {n : Nat} {o : Oper} (ho : o.op = .call c) (hc : c.callee = .builtin .len) (hargs : c.args.toList = [x]) (hat : c.argTypes[0]? = some t)
    (ht : P.underlying t = some (.slice e)) (hx : RV ρ w b (act.eval x)) (hs : lenV b = some n) : Snd P G ρ w act o (.int .i64 n) h := by
  refine Snd.pure R (x := .int .i64 n) ?_ (.int _ _)
  have hargs : c.args = #[x] := by rw [← Array.toList_inj, hargs]
  have key : (Builtin.len_ c.argTypes o.type #[act.eval x]).run P w = .ok (.int .i64 n) w := by
    generalize act.eval x = u at hx
    unfold lenV at hs
    split at hs <;> first
      | (injection hs with hs
         subst hs
         cases hx
         simp [Builtin.len_, hat, run_underlying ht, goInt])
      | cases hs
  simp [execOp, ho, resolve, hc, hargs, invoke, builtin, key]

theorem sound_lenS (R : Rel G ρ h w) {t : TypeId} {x : Operand} {c : Call} {b : V} {n : Nat} {o : Oper} (ho : o.op = .call c) (hc : c.callee = .builtin .len) (hargs : c.args.toList = [x]) (hat : c.argTypes[0]? = some t)
    (ht : P.underlying t = some .string) (hx : RV ρ w b (act.eval x)) (hs : lenS b = some n) : Snd P G ρ w act o (.int .i64 n) h := by
  refine Snd.pure R (x := .int .i64 n) ?_ (.int _ _)
  have hargs : c.args = #[x] := by rw [← Array.toList_inj, hargs]
  have key : (Builtin.len_ c.argTypes o.type #[act.eval x]).run P w = .ok (.int .i64 n) w := by
    generalize act.eval x = u at hx
    unfold lenS at hs
    split at hs <;> first
      | (injection hs with hs
         subst hs
         cases hx
         simp [Builtin.len_, hat, run_underlying ht, goInt])
      | cases hs
  simp [execOp, ho, resolve, hc, hargs, invoke, builtin, key]

theorem bytes_str : ∀ (ys : List V) (bs : List UInt8), bytesOf ys = some bs → ∃ ns : List Int, ys = ns.map (V.int .u8) ∧ bs = ns.map fun n => UInt8.ofNat n.toNat
  | [], bs, e => by simp [bytesOf] at e; subst e; exact ⟨[], rfl, rfl⟩
  | y :: ys, bs, e => by
    unfold bytesOf at e
    split at e
    · cases ‹_ = ([] : List V)›
    · rename_i n vs q
      injection q with q1 q2
      subst q1 q2
      rw [Option.map_eq_some_iff] at e
      obtain ⟨bs', e1, rfl⟩ := e
      obtain ⟨ns, e2, e3⟩ := bytes_str ys bs' e1
      exact ⟨n :: ns, by simp [e2], by simp [e3]⟩
    · cases e

theorem flat_ints : ∀ ns : List Int, (ns.map (V.int .u8)).flatMap V.cells = ns.map (V.int .u8)
  | [] => rfl
  | n :: ns => by simp only [List.map_cons, List.flatMap_cons, flat_ints ns]; rfl

theorem sound_b2s (R : Rel G ρ h w) {src dst e : TypeId} {x : Operand} {b : V} {bs : List UInt8} {o : Oper} (ho : o.op = .convert src dst x) (h1 : P.underlying src = some (.slice e)) (h2 : P.underlying dst = some .string) (h3 : P.underlying e = some (.int .u8))
    (hx : RV ρ w b (act.eval x)) (hs : (readL h b).bind bytesOf = some bs) : Snd P G ρ w act o (.str ⟨bs.toArray⟩) h := by
  rw [Option.bind_eq_some_iff] at hs
  obtain ⟨ys, hy, hb⟩ := hs
  obtain ⟨ns, rfl, rfl⟩ := bytes_str _ _ hb
  obtain ⟨s, base, n, c, eu, rd⟩ := readL_rd R hy hx
  have hlen : n = ns.length := by have := rd.len; simpa using this
  have key : (convert src dst (.slice base n c)).run P w = .ok (.string (strOfNums ns)) w := by
    by_cases h0 : 0 < n
    · obtain ⟨r, off, e1, hc⟩ := rd.cell h0
      subst e1
      refine run_convert_bytes_arg w src e h1 h3 r off n c ns hlen.symm (fun i hi => ?_) dst h2
      have hfl := flat_ints ns
      obtain ⟨v, q1, q2⟩ := hc i (.int .u8 ns[i]) (by rw [hfl]; simp [show i < ns.length by omega])
      rw [q1, q2.int_inv]
      simp [List.getD_eq_getElem?_getD, List.getElem?_eq_getElem (show i < ns.length by omega)]
    · have hn : n = 0 := by omega
      have : ns = [] := List.eq_nil_of_length_eq_zero (by omega)
      subst this hn
      cases base with
      | none => exact run_convert_bytes_nil w src e h1 h3 0 c dst h2
      | some a =>
        simp [convert, run_underlying h1, run_underlying h2, run_underlying h3, Conv.bytesToString, loadCells, loadCellsFrom, strOfNums]
        rfl
  refine Snd.pure R (x := .string (strOfNums ns)) ?_ (.str _)
  simp [execOp, ho, eu, key]

theorem sound_s2ap (R : Rel G ρ h w) {t e : TypeId} {n : Nat} {x : Operand} {b v : V} {o : Oper} (ho : o.op = .sliceToArrayPointer t x) (h1 : P.underlying t = some (.array n e))
    (hx : RV ρ w b (act.eval x)) (hs : stepI G a h (.s2ap n (.c b)) = some (v, h)) : Snd P G ρ w act o v h := by
  simp only [stepI, Opd.ev] at hs
  split at hs
  · rename_i xs
    split at hs
    · rename_i hcond
      obtain ⟨hn, k1, k2⟩ := hcond
      injection hs with hs
      injection hs with hs _
      subst hs
      generalize hu : act.eval x = u at hx
      cases hx with
      | lst _ s base c f hc hss ha hv =>
        obtain ⟨r, off, e1, hF, hcell⟩ := ha (by omega)
        have hfl := flat_length xs s (fun y hy => (hss y hy).2)
        refine Snd.pure R (x := .pointer base) ?_ ?_
        · simp [execOp, ho, hu, Instr.arrayAt, run_underlying h1, show ¬ xs.length < n by omega]
        · subst e1
          refine .cptr _ _ _ f (fun y hy => ?_) hF (fun j hj => hcell j (by rw [← hfl]; exact hj)) hv
          rw [List.mem_flatMap] at hy
          obtain ⟨z, hz, hy⟩ := hy
          exact V.cells_all (hss z hz).1 _ hy
    · cases hs
  · cases hs

/-- A row is laid down: nobody writes it any more. -/
theorem freeze_sound (R : Rel G ρ h w) {v v' : V} {h' : Heap} {x : Value} (r : RV ρ w v x) (hs : freezeV h v = some (v', h')) (w' : World)
    (e2 : ∀ o off len room, v = .slc o off len room → ∀ rr s nb, ρ.obj o = some (rr, s, nb) → (∀ k, k ≠ rr → w'.heap[k]? = w.heap[k]?) ∧ ∀ cells ty, w.heap[rr]? = some (.cells cells ty (0, 0)) → ∃ fr, w'.heap[rr]? = some (.cells cells ty fr))
    (e3 : (∀ o off len room, v ≠ .slc o off len room) → w'.heap = w.heap) (esz : w'.heap.size = w.heap.size) (ho : w'.os = w.os) (ht : w'.tape = w.tape) (hou : w'.output = w.output) :
    ∃ ρ', Step ρ w ρ' w' ∧ Rel G ρ' h' w' ∧ RV ρ' w' v' x := by
  have plain : w'.heap = w.heap → Step ρ w ρ w' ∧ Rel G ρ h w' := fun e => ⟨⟨⟨fun _ _ h => h, fun _ _ h => h, fun _ h => h, fun _ _ => by rw [e]⟩, by rw [e]; exact Nat.le_refl _, ho, ht, hou⟩, R.same e⟩
  unfold freezeV at hs
  split at hs
  · injection hs with hs
    injection hs with hs1 hs2
    subst hs1 hs2
    obtain ⟨st, R'⟩ := plain (e3 (fun _ _ _ _ e => by cases e))
    refine ⟨ρ, st, R', ?_⟩
    cases r with
    | nil b => exact .lst [] 0 b 0 (fun _ => Go.undef) (by simp) (fun y hy => by simp at hy) (fun h0 => by simp at h0) (fun j u hu => by simp at hu)
  · injection hs with hs
    injection hs with hs1 hs2
    subst hs1 hs2
    obtain ⟨st, R'⟩ := plain (e3 (fun _ _ _ _ e => by cases e))
    exact ⟨ρ, st, R', r.mono st.toLe⟩
  · rename_i o off len room
    split at hs
    · rename_i ty sz xs hob
      split at hs
      · rename_i hle
        injection hs with hs
        injection hs with hs1 hs2
        subst hs1 hs2
        cases r with
        | slc _ _ _ _ rr s nb c hρ hl hr hnn =>
          obtain ⟨r', nb', p1, hnF, hss, cells, hc1, hc2, hv⟩ := R.arr o ty sz xs hob
          rw [hρ] at p1
          injection p1 with p1
          injection p1 with p1 p2
          injection p2 with p2 p3
          subst p1 p2 p3
          obtain ⟨g1, g2⟩ := e2 _ _ _ _ rfl _ _ _ hρ
          obtain ⟨fr, g2⟩ := g2 cells ty hc1
          obtain ⟨ρ', st, R', hF⟩ := R.hold o ty s xs rr nb hob hρ w' g1 esz ho ht hou
          refine ⟨ρ', st, R', ?_⟩
          have hs2 : ∀ y ∈ xs, y.cells.length = s := fun y hy => (hss y hy).2
          have elen : ((xs.drop off).take len).length = len := by simp; omega
          have hfx := flat_length xs s hs2
          have hsome : ∀ j, off * s + j < xs.length * s → ∃ q : Value, cells[off * s + j]? = some q ∧ ∀ u, (xs.flatMap V.cells)[off * s + j]? = some u → RV ρ w u q := fun j hj => by
            obtain ⟨q, k1, k2⟩ := hv (off * s + j) _ (List.getElem?_eq_getElem (by rw [hfx]; exact hj))
            exact ⟨q, k1, fun u hu => by rw [List.getElem?_eq_getElem (by rw [hfx]; exact hj)] at hu; injection hu with hu; rw [← hu]; exact k2⟩
          have hb : len * s + off * s ≤ xs.length * s := by rw [← Nat.add_mul]; exact Nat.mul_le_mul_right s (by omega)
          have := RV.lst (ρ := ρ') (w := w') ((xs.drop off).take len) s (some ⟨rr, off * s, none⟩) c (fun j => cells.getD (off * s + j) Go.undef) (by rw [elen]; omega)
            (fun y hy => hss y (List.mem_of_mem_drop (List.mem_of_mem_take hy))) (fun _ => ⟨rr, off * s, rfl, hF, fun j hj => by
              rw [elen] at hj
              rw [cell_at g2]
              obtain ⟨q, k1, _⟩ := hsome j (by omega)
              simp [k1, Array.getD_eq_getD_getElem?]⟩) (fun j u hu => by
              rw [flat_take _ s (fun y hy => hs2 y (List.mem_of_mem_drop hy)), flat_drop xs s hs2, List.getElem?_take] at hu
              split at hu
              · rename_i hj
                rw [List.getElem?_drop] at hu
                obtain ⟨q, k1, k2⟩ := hsome j (by omega)
                have : cells.getD (off * s + j) Go.undef = q := by simp [k1, Array.getD_eq_getD_getElem?]
                rw [this]
                exact (k2 u hu).mono st.toLe
              · cases hu)
          rw [elen] at this
          exact this
      · cases hs
    · cases hs
  · cases hs

theorem freeze_heap (w : World) (a : Addr) (n : Nat) : (w.freeze a n).heap.size = w.heap.size ∧ (w.freeze a n).os = w.os ∧ (w.freeze a n).tape = w.tape ∧ (w.freeze a n).output = w.output ∧
    (∀ k, k ≠ a.block → (w.freeze a n).heap[k]? = w.heap[k]?) ∧ ∀ cells ty fr, w.heap[a.block]? = some (.cells cells ty fr) → ∃ fr', (w.freeze a n).heap[a.block]? = some (.cells cells ty fr') := by
  unfold World.freeze
  split
  · exact ⟨rfl, rfl, rfl, rfl, fun _ _ => rfl, fun cells ty fr e => ⟨fr, e⟩⟩
  · refine ⟨by simp, rfl, rfl, rfl, fun k hk => by simp [Array.getElem?_modify, Ne.symm hk], fun cells ty fr e => ?_⟩
    simp only [Array.getElem?_modify, if_pos, e, Option.map_some]
    obtain ⟨lo, hi⟩ := fr
    exact ⟨_, rfl⟩

theorem sound_still (R : Rel G ρ h w) {t e : TypeId} {x : Operand} {b v : V} {h' : Heap} {o : Oper} (ho : o.op = .convert t t x) (h1 : P.underlying t = some (.slice e)) (h3 : P.underlying e = some (.int .u8))
    (hx : RV ρ w b (act.eval x)) (hb : ∃ o off len room, b = .slc o off len room) (hs : freezeV h b = some (v, h')) : Snd P G ρ w act o v h' := by
  obtain ⟨o', off, len, room, rfl⟩ := hb
  have hx' := hx
  generalize hu : act.eval x = u at hx'
  cases hx' with
  | slc _ _ _ _ rr s nb c hρ hl hr hnn =>
    have hob : ∃ ty sz xs, h.obj o' = some (.arr ty sz xs) := by
      unfold freezeV at hs
      simp only at hs
      split at hs
      · exact ⟨_, _, _, ‹_›⟩
      · cases hs
    obtain ⟨ty, sz, xs, hob⟩ := hob
    obtain ⟨r', nb', p1, hnF, hss, cells, hc1, hc2, hv⟩ := R.arr o' ty sz xs hob
    rw [hρ] at p1
    injection p1 with p1
    injection p1 with p1 p2
    subst p1
    obtain ⟨q1, q2, q3, q4, q5, q6⟩ := freeze_heap w { block := rr, off := cells.size } 1
    obtain ⟨ρ', st, R', r⟩ := freeze_sound R hx hs (w.freeze { block := rr, off := cells.size } 1) (fun o2 off2 len2 room2 e r2 s2 nb2 g => by
      injection e with e
      subst e
      rw [hρ] at g
      injection g with g
      injection g with g
      subst g
      exact ⟨q5, fun c2 ty2 g => q6 c2 ty2 _ g⟩) (fun q => absurd rfl (q _ _ _ _)) q1 q2 q3 q4
    refine ⟨.value (act.eval x), act.eval x, _, ρ', ?_, rfl, st, R', r⟩
    simp [execOp, ho, hu, convert, run_underlying h1, run_underlying h3, markStringish, World.shape?, hc1]

end Go.Am

/- The abstract machine, 12: rows of whole numbers held against one another; maps. -/
namespace Go.Am
variable {P : Program} {G : Nat → V} {ρ : Ren} {h : Heap} {w : World} {N : Nat} {a : Tm} {act : Act}

theorem eqInt_some {x y : V} {b : Bool} (e : eqInt x y = some b) : ∃ k m n, x = .int k m ∧ y = .int k n ∧ b = (m == n) := by
  unfold eqInt at e
  split at e
  · split at e
    · rename_i k m k' n hk
      subst hk
      injection e with e
      exact ⟨_, _, _, rfl, rfl, e.symm⟩
    · cases e
  · cases e

/-- What the type of such a row is. -/
structure IntsT (P : Program) (t : TypeId) (n : Nat) : Prop where
  ex : ∃ e k i, P.underlying t = some (.array n e) ∧ P.underlying e = some (.int k) ∧ P.info? e = some i ∧ i.size = 1

theorem intsT_some {t : TypeId} {n : Nat} {e : TypeId} (h1 : P.underlying t = some (.array n e)) (h2 : intsT P t = true) : IntsT P t n ∧ P.eqGuardType P.depth t = false := by
  unfold intsT at h2
  rw [h1] at h2
  simp only at h2
  split at h2
  · rename_i k hk
    simp only [Bool.and_eq_true, beq_iff_eq, Bool.not_eq_true'] at h2
    obtain ⟨⟨q1, q2⟩, q3⟩ := h2
    obtain ⟨i, hi, hs⟩ := szT_some q1
    exact ⟨⟨e, k, i, h1, hk, hi, hs⟩, q3⟩
  · cases h2

theorem part_int {e : TypeId} {k : IntKind} (he : P.underlying e = some (.int k)) {us : Array Value} {j : Nat} {v : Value} (hv : us[j]? = some v) : (part e us j).run P w = .ok v w := by
  simp [part, isAgg, run_underlying he, hv]

theorem run_eqItems (d : Nat) {e : TypeId} {k0 : IntKind} (he : P.underlying e = some (.int k0)) (us vs : Array Value) : ∀ (xs ys : List V) (s : Nat) (b : Bool), eqInts xs ys = some b →
    (∀ (j : Nat) (u : V), xs[j]? = some u → ∃ q : Value, us[s + j]? = some q ∧ RV ρ w u q) → (∀ (j : Nat) (u : V), ys[j]? = some u → ∃ q : Value, vs[s + j]? = some q ∧ RV ρ w u q) →
    (Op.eqItems (d + 1) e 1 us vs (List.range' s xs.length)).run P w = .ok b w
  | [], [], s, b, hb, _, _ => by simp [eqInts] at hb; subst hb; simp [Op.eqItems]
  | [], _ :: _, _, _, hb, _, _ => by simp [eqInts] at hb
  | _ :: _, [], _, _, hb, _, _ => by simp [eqInts] at hb
  | x :: xs, y :: ys, s, b, hb, hx, hy => by
    unfold eqInts at hb
    split at hb
    · rename_i b1 b2 e1 e2
      injection hb with hb
      obtain ⟨k, m, n, rfl, rfl, rfl⟩ := eqInt_some e1
      obtain ⟨q1, p1, r1⟩ := hx 0 _ rfl
      obtain ⟨q2, p2, r2⟩ := hy 0 _ rfl
      rw [r1.int_inv] at p1
      rw [r2.int_inv] at p2
      have ih := run_eqItems d he us vs xs ys (s + 1) b2 e2 (fun j u hu => by
        obtain ⟨q, k1, k2⟩ := hx (j + 1) u (by simpa using hu)
        exact ⟨q, by rw [show s + 1 + j = s + (j + 1) from by omega]; exact k1, k2⟩) (fun j u hu => by
        obtain ⟨q, k1, k2⟩ := hy (j + 1) u (by simpa using hu)
        exact ⟨q, by rw [show s + 1 + j = s + (j + 1) from by omega]; exact k1, k2⟩)
      simp only [List.length_cons, List.range'_succ, Op.eqItems, Sem.run_bind, Nat.mul_one]
      rw [part_int he (by simpa using p1)]
      simp only [Result.andThen_ok]
      rw [part_int he (by simpa using p2)]
      simp only [Result.andThen_ok]
      have heq : (Op.equalIn (d + 1) e (.int k m) (.int k n)).run P w = .ok (m == n) w := by simp [Op.equalIn, run_underlying he]
      rw [heq]
      simp only [Result.andThen_ok]
      cases hmn : (m == n)
      · rw [hmn] at hb
        simp at hb
        subst hb
        simp
      · rw [hmn] at hb
        simp at hb
        subst hb
        simpa using ih
    · cases hb

theorem RV.agg_inv {xs : List V} {x : Value} (r : RV ρ w (.agg xs) x) : ∃ us : Array Value, x = .agg us ∧ us.size = xs.length ∧ ∀ (j : Nat) (u : V), xs[j]? = some u → ∃ q : Value, us[j]? = some q ∧ RV ρ w u q := by
  cases r with
  | agg _ us hl hv =>
    refine ⟨us, rfl, hl, fun j u hu => ?_⟩
    have hj : j < us.size := by rw [hl]; exact (List.getElem?_eq_some_iff.1 hu).1
    exact ⟨us[j], by simp [hj], by simpa [Array.getD, hj] using hv j u hu⟩

theorem run_equalIn_ints {t : TypeId} {n : Nat} (ht : IntsT P t n) {xs ys : List V} {b : Bool} {u v : Value} (hb : eqInts xs ys = some b) (hn : xs.length = n) (ru : RV ρ w (.agg xs) u) (rv : RV ρ w (.agg ys) v) (d : Nat) :
    (Op.equalIn (d + 2) t u v).run P w = .ok b w := by
  obtain ⟨e, k, i, h1, h2, h3, h4⟩ := ht.ex
  obtain ⟨us, rfl, _, hu⟩ := ru.agg_inv
  obtain ⟨vs, rfl, _, hv⟩ := rv.agg_inv
  rw [run_equalIn_array w (d + 1) us vs h1 h3]
  have hc : P.cellsOf e = 1 := by simp [Program.cellsOf, h3, h4]
  rw [hc, List.range_eq_range', ← hn]
  exact run_eqItems d h2 us vs xs ys 0 b hb (fun j u q => by rw [Nat.zero_add]; exact hu j u q) (fun j u q => by rw [Nat.zero_add]; exact hv j u q)

theorem eqGuard_agg {op : BinOp} {t : TypeId} {x y : Operand} {us vs : Array Value} (hg : P.eqGuardType P.depth t = false) : (eqGuard op t x y (.agg us) (.agg vs)).run P w = .ok () w := by
  unfold eqGuard
  cases op <;> simp [hg]

theorem sound_eqInts (R : Rel G ρ h w) {neg : Bool} {t ty e : TypeId} {n : Nat} {x y : Operand} {b c : V} {r : Bool} {o : Oper} (ho : o.op = .binOp (if neg then .neq else .eql) t x y ty)
    (h1 : P.underlying t = some (.array n e)) (h2 : intsT P t = true) (hx : RV ρ w b (act.eval x)) (hy : RV ρ w c (act.eval y)) (hs : eqV (.ints n) b c = some r) : Snd P G ρ w act o (.bool (neg != r)) h := by
  obtain ⟨ht, hg⟩ := intsT_some h1 h2
  have hbc : ∃ xs ys, b = .agg xs ∧ c = .agg ys := by
    unfold eqV at hs
    split at hs <;> first | exact ⟨_, _, rfl, rfl⟩ | (cases hs; done) | (rename_i q; cases q; done) | (rename_i q _; cases q; done) | (rename_i q _ _; cases q)
  obtain ⟨xs, ys, rfl, rfl⟩ := hbc
  simp only [eqV] at hs
  split at hs
  · rename_i hl
    have heq := run_equalIn_ints ht hs hl hx hy 9998
    have heq' : (Op.equal t (act.eval x) (act.eval y)).run P w = .ok r w := heq
    obtain ⟨us, eu, _⟩ := hx.agg_inv
    obtain ⟨vs, ev, _⟩ := hy.agg_inv
    rw [eu, ev] at heq'
    refine Snd.pure R (x := .bool (neg != r)) ?_ (.bool _)
    have hgd := eqGuard_agg (P := P) (w := w) (op := if neg then .neq else .eql) (x := x) (y := y) (us := us) (vs := vs) hg
    simp only [execOp, ho, eu, ev, Sem.run_bind, hgd, Result.andThen_ok]
    cases neg
    · have : binOp .eql t (.agg us) (.agg vs) = (Op.equal t (.agg us) (.agg vs) >>= fun b => Pure.pure (.bool b)) := rfl
      simp [this, heq']
    · have : binOp .neq t (.agg us) (.agg vs) = (Op.equal t (.agg us) (.agg vs) >>= fun b => Pure.pure (.bool (!b))) := rfl
      simp [this, heq']
  · cases hs

/-! ### keys -/

/-- The type of a map's keys. -/
structure KeyT (P : Program) (t : TypeId) (kn : Option Nat) : Prop where
  ex : (kn = none ∧ ∃ k, P.underlying t = some (.int k)) ∨ ∃ n, kn = some n ∧ IntsT P t n

theorem keyT_some {t : TypeId} {kn : Option Nat} (e : keyT P t = some kn) : KeyT P t kn := by
  unfold keyT at e
  split at e
  · injection e with e
    exact ⟨.inl ⟨e.symm, _, ‹_›⟩⟩
  · rename_i n el he
    split at e
    · rename_i hi
      injection e with e
      exact ⟨.inr ⟨n, e.symm, (intsT_some he hi).1⟩⟩
    · cases e
  · cases e

theorem eqInts_refl_ints : ∀ {xs ys : List V} {b : Bool}, eqInts xs ys = some b → (∀ (j : Nat) (u : V), xs[j]? = some u → ∃ k m, u = V.int k m) ∧ xs.length = ys.length ∧ (b = true → xs = ys)
  | [], [], b, e => ⟨fun j u hu => by simp at hu, rfl, fun _ => rfl⟩
  | [], _ :: _, _, e => by simp [eqInts] at e
  | _ :: _, [], _, e => by simp [eqInts] at e
  | x :: xs, y :: ys, b, e => by
    unfold eqInts at e
    split at e
    · rename_i b1 b2 e1 e2
      injection e with e
      obtain ⟨k, m, n, rfl, rfl, rfl⟩ := eqInt_some e1
      obtain ⟨i1, i2, i3⟩ := eqInts_refl_ints e2
      refine ⟨fun j u hu => ?_, by simp [i2], fun hb => ?_⟩
      · cases j with
        | zero => simp at hu; exact ⟨k, m, hu.symm⟩
        | succ j => exact i1 j u (by simpa using hu)
      · subst hb
        simp at e
        obtain ⟨e1, e2⟩ := e
        rw [e1, i3 e2]
    · cases e

theorem keyEq_some {n : Nat} {x y : V} {b : Bool} (e : keyEq (some n) x y = some b) : ∃ xs ys, x = .agg xs ∧ y = .agg ys ∧ xs.length = n ∧ eqInts xs ys = some b := by
  unfold keyEq at e
  cases x <;> first | (cases e; done) | skip
  rename_i xs
  cases y <;> first | (cases e; done) | skip
  rename_i ys
  simp only at e
  split at e
  · exact ⟨xs, ys, rfl, rfl, ‹_›, e⟩
  · cases e

theorem isKey_inv {kn : Option Nat} {x : V} (e : isKey kn x = true) : (kn = none ∧ ∃ k m, x = .int k m) ∨ ∃ n xs, kn = some n ∧ x = .agg xs ∧ xs.length = n ∧ ∀ (j : Nat) (u : V), xs[j]? = some u → ∃ k m, u = V.int k m := by
  unfold isKey at e
  rw [beq_iff_eq] at e
  cases kn with
  | none =>
    obtain ⟨k, m, n, rfl, q, _⟩ := eqInt_some (show eqInt x x = some true from e)
    exact .inl ⟨rfl, k, m, rfl⟩
  | some n =>
    obtain ⟨xs, ys, rfl, _, hl, hq⟩ := keyEq_some e
    exact .inr ⟨n, xs, rfl, rfl, hl, (eqInts_refl_ints hq).1⟩

theorem run_checkKey_ints {t : TypeId} {n : Nat} (ht : IntsT P t n) {xs : List V} {u : Value} (hl : xs.length = n) (hi : ∀ (j : Nat) (u : V), xs[j]? = some u → ∃ k m, u = V.int k m) (r : RV ρ w (.agg xs) u) (em : Bool) (d : Nat) :
    (Instr.checkKey em (d + 2) t u).run P w = .ok () w := by
  obtain ⟨e, k, i, h1, h2, h3, h4⟩ := ht.ex
  obtain ⟨us, rfl, hs, hu⟩ := r.agg_inv
  rw [Instr.checkKey]
  simp only [Sem.run_bind, run_underlying h1, Result.andThen_ok]
  simp only [Std.Legacy.Range.forIn_eq_forIn_range', Std.Legacy.Range.size, Nat.sub_zero, Nat.add_one_sub_one, Nat.div_one]
  have each : ∀ j ∈ List.range' 0 n, j < n := fun j hj => by simpa using (List.mem_range'_1.1 hj).2
  generalize List.range' 0 n = is at each
  induction is with
  | nil => simp
  | cons j is ih =>
    have hj : j < xs.length := by rw [hl]; exact each j (by simp)
    obtain ⟨q, k1, k2⟩ := hu j _ (List.getElem?_eq_getElem hj)
    obtain ⟨kk, m, em'⟩ := hi j _ (List.getElem?_eq_getElem hj)
    rw [em'] at k2
    rw [k2.int_inv] at k1
    have p2 : (Instr.checkKey em (d + 1) e (.int kk m)).run P w = .ok () w := by simp [Instr.checkKey, run_underlying h2]
    have p1 : (part e us (j * i.size)).run P w = .ok (.int kk m) w := by rw [h4, Nat.mul_one]; exact part_int h2 k1
    simp only [List.forIn_cons, Sem.run_bind, run_sizeOf h3, Result.andThen_ok, p1, p2, Sem.run_pure]
    exact ih (fun y hy => each y (by simp [hy]))

theorem run_checkKey' {t : TypeId} {kn : Option Nat} (ht : KeyT P t kn) {k : V} {u : Value} (hk : isKey kn k = true) (r : RV ρ w k u) (em : Bool) : (Instr.checkKey em 10000 t u).run P w = .ok () w := by
  rcases isKey_inv hk with ⟨rfl, kk, m, rfl⟩ | ⟨n, xs, rfl, rfl, hl, hi⟩
  · obtain ⟨_, q, hu⟩ := ht.ex.resolve_right (fun ⟨n, e, _⟩ => by cases e)
    rw [r.int_inv, show (10000 : Nat) = 9999 + 1 from rfl, Instr.checkKey]
    simp [run_underlying hu]
  · obtain ⟨n', e, hq⟩ := ht.ex.resolve_left (fun ⟨e, _⟩ => by cases e)
    injection e with e
    subst e
    exact run_checkKey_ints hq hl hi r em 9998

/-- Keys that are the same are the same values. -/
theorem key_same {kn : Option Nat} {x y : V} {u v : Value} (e : keyEq kn x y = some true) (ru : RV ρ w x u) (rv : RV ρ w y v) : u = v ∧ x = y := by
  cases kn with
  | none =>
    obtain ⟨k, m, n, rfl, rfl, hb⟩ := eqInt_some (show eqInt x y = some true from e)
    simp at hb
    subst hb
    exact ⟨by rw [ru.int_inv, rv.int_inv], rfl⟩
  | some n =>
    obtain ⟨xs, ys, rfl, rfl, hl, e⟩ := keyEq_some e
    obtain ⟨i1, i2, i3⟩ := eqInts_refl_ints e
    have := i3 rfl
    subst this
    refine ⟨?_, rfl⟩
    obtain ⟨us, rfl, hs1, h1⟩ := ru.agg_inv
    obtain ⟨vs, rfl, hs2, h2⟩ := rv.agg_inv
    congr 1
    apply Array.ext_getElem?
    intro j
    by_cases hj : j < xs.length
    · obtain ⟨q1, k1, k2⟩ := h1 j _ (List.getElem?_eq_getElem hj)
      obtain ⟨q2, k3, k4⟩ := h2 j _ (List.getElem?_eq_getElem hj)
      obtain ⟨k, m, em⟩ := i1 j _ (List.getElem?_eq_getElem hj)
      rw [em] at k2 k4
      rw [k1, k3, k2.int_inv, k4.int_inv]
    · simp [show us.size ≤ j by omega, show vs.size ≤ j by omega]

theorem sameBits_key {kn : Option Nat} {x : V} {u : Value} (hk : isKey kn x = true) (r : RV ρ w x u) : Instr.sameBits 10000 u u = true := by
  rcases isKey_inv hk with ⟨rfl, kk, m, rfl⟩ | ⟨n, xs, rfl, rfl, hl, hi⟩
  · rw [r.int_inv]
    simp [Instr.sameBits]
  · obtain ⟨us, rfl, hs, h1⟩ := r.agg_inv
    rw [show (10000 : Nat) = 9999 + 1 from rfl]
    simp only [Instr.sameBits, BEq.rfl, Bool.true_and, List.all_eq_true]
    intro p hp
    obtain ⟨j, hj⟩ := List.mem_iff_getElem?.1 hp
    rw [List.getElem?_zip_eq_some] at hj
    obtain ⟨g1, g2⟩ := hj
    rw [g1] at g2
    injection g2 with g2
    have hjl : j < us.size := by simpa using (List.getElem?_eq_some_iff.1 g1).1
    obtain ⟨q, k1, k2⟩ := h1 j _ (List.getElem?_eq_getElem (by omega))
    obtain ⟨k, m, em⟩ := hi j _ (List.getElem?_eq_getElem (by omega))
    rw [em] at k2
    have : p.1 = .int k m := by
      have : us.toList[j]? = some q := by simpa using k1
      rw [g1] at this
      injection this with this
      rw [this, k2.int_inv]
    obtain ⟨p1, p2⟩ := p
    simp only at this g2
    subst this g2
    rw [show (9999 : Nat) = 9998 + 1 from rfl]
    simp [Instr.sameBits]

/-- Where a key stands. -/
theorem findV_spec {kn : Option Nat} {k : V} : ∀ {es : List En} {r : Option (V × Nat)}, findV kn k es = some r →
    match r with
    | none => ∀ e ∈ es, keyEq kn k e.key = some false
    | some (v, n) => ∃ i e, es[i]? = some e ∧ keyEq kn k e.key = some true ∧ (∀ j, j < i → ∀ e', es[j]? = some e' → keyEq kn k e'.key = some false) ∧ v = e.val ∧ n = e.born ∧
        (∀ u, putAt kn k u es = es.set i ⟨k, u.getD e.val, e.born⟩) ∧ dropV kn k es = es.eraseIdx i
  | [], r, hr => by
    simp [findV] at hr
    subst hr
    simp
  | e :: es, r, hr => by
    unfold findV at hr
    split at hr
    · rename_i hk
      injection hr with hr
      subst hr
      exact ⟨0, e, rfl, hk, fun j hj => by omega, rfl, rfl, fun u => by simp [putAt, hk], by simp [dropV, hk]⟩
    · rename_i hk
      have ih := findV_spec hr
      cases r with
      | none =>
        intro e' he'
        rcases List.mem_cons.1 he' with rfl | he'
        · exact hk
        · exact ih e' he'
      | some vn =>
        obtain ⟨v, n⟩ := vn
        obtain ⟨i, e', h1, h2, h3, h4, h5, h6, h7⟩ := ih
        refine ⟨i + 1, e', by simpa using h1, h2, fun j hj e2 he2 => ?_, h4, h5, fun u => by simp [putAt, hk, h6 u], by simp [dropV, hk, h7]⟩
        cases j with
        | zero => simp at he2; subst he2; exact hk
        | succ j => exact h3 j (by omega) e2 (by simpa using he2)
    · cases hr

theorem run_findKey' {t : TypeId} {kn : Option Nat} (ht : KeyT P t kn) {k : V} {u : Value} (hk : isKey kn k = true) (r : RV ρ w k u) : ∀ (es : List En) (ents : List MapEntry) (s : Nat) (x : Option (V × Nat)), findV kn k es = some x →
    ents.length = es.length → (∀ (j : Nat) (e : En), es[j]? = some e → ∃ y : MapEntry, ents[j]? = some y ∧ RV ρ w e.key y.key ∧ RV ρ w e.val y.val ∧ y.born = e.born) →
    ∀ (goal : Option (Nat × Value)), (match x with | none => goal = none | some _ => ∃ i e y, es[i]? = some e ∧ keyEq kn k e.key = some true ∧ (∀ j, j < i → ∀ e', es[j]? = some e' → keyEq kn k e'.key = some false) ∧ ents[i]? = some y ∧ goal = some (s + i, y.val)) →
      (kn = none → ∀ d, P.underlying t = some d → Instr.findNow d u ents s = some goal) ∧ ((Instr.findAsking t u ents s).run P w = .ok goal w)
  | [], ents, s, x, hx, hl, _, goal, hg => by
    have : ents = [] := List.eq_nil_of_length_eq_zero (by simpa using hl)
    subst this
    simp [findV] at hx
    subst hx
    simp only at hg
    subst hg
    exact ⟨fun _ d _ => by simp [Instr.findNow], by simp [Instr.findAsking]⟩
  | e :: es, [], s, x, hx, hl, _, goal, hg => by simp at hl
  | e :: es, y :: ents, s, x, hx, hl, hv, goal, hg => by
    obtain ⟨y', hy', r1, r2, r3⟩ := hv 0 e rfl
    simp at hy'
    subst hy'
    have hv' : ∀ (j : Nat) (e' : En), es[j]? = some e' → ∃ y : MapEntry, ents[j]? = some y ∧ RV ρ w e'.key y.key ∧ RV ρ w e'.val y.val ∧ y.born = e'.born := fun j e' he' => by
      obtain ⟨y2, k1, k2⟩ := hv (j + 1) e' (by simpa using he')
      exact ⟨y2, by simpa using k1, k2⟩
    -- what '==' says
    have heq : ∀ b, keyEq kn k e.key = some b → (kn = none → ∀ d, P.underlying t = some d → Instr.sameNow d u y.key = some b) ∧ (Op.equal t u y.key).run P w = .ok b w := by
      intro b hb
      rcases isKey_inv hk with ⟨rfl, kk, m, rfl⟩ | ⟨n, xs, rfl, rfl, hln, hi⟩
      · obtain ⟨_, q, hu⟩ := ht.ex.resolve_right (fun ⟨n, e, _⟩ => by cases e)
        simp only [keyEq] at hb
        obtain ⟨k', m', n', e1, e2, e3⟩ := eqInt_some hb
        injection e1 with e1 e4
        subst e1 e4
        rw [e2] at r1
        rw [r.int_inv, r1.int_inv, e3]
        refine ⟨fun _ d hd => ?_, ?_⟩
        · rw [hu] at hd
          injection hd with hd
          subst hd
          simp [Instr.sameNow]
        · have : ∀ d, (Op.equalIn (d + 1) t (.int kk m) (.int kk n')).run P w = .ok (m == n') w := fun d => by simp [Op.equalIn, run_underlying hu]
          exact this 9999
      · obtain ⟨n', e', hq⟩ := ht.ex.resolve_left (fun ⟨e, _⟩ => by cases e)
        injection e' with e'
        subst e'
        obtain ⟨xs2, ys2, e1, e2, hl2, hb⟩ := keyEq_some hb
        injection e1 with e1
        subst e1
        rw [e2] at r1
        exact ⟨fun e => (by cases e), run_equalIn_ints hq hb hl2 r r1 9998⟩
    unfold findV at hx
    split at hx
    · rename_i hke
      injection hx with hx
      subst hx
      obtain ⟨i, e2, y2, h1, h2, h3, h4, rfl⟩ := hg
      have hi : i = 0 := by
        cases i with
        | zero => rfl
        | succ i =>
          have := h3 0 (by omega) e rfl
          rw [hke] at this
          cases this
      subst hi
      simp at h4
      subst h4
      obtain ⟨q1, q2⟩ := heq true hke
      exact ⟨fun e1 d hd => by simp [Instr.findNow, q1 e1 d hd], by simp [Instr.findAsking, q2]⟩
    · rename_i hke
      have ih := run_findKey' ht hk r es ents (s + 1) x hx (by simpa using hl) hv' goal (by
        cases x with
        | none => exact hg
        | some vn =>
          obtain ⟨i, e2, y2, h1, h2, h3, h4, h5⟩ := hg
          cases i with
          | zero =>
            simp at h1
            subst h1
            rw [hke] at h2
            cases h2
          | succ i => exact ⟨i, e2, y2, by simpa using h1, h2, fun j hj e' he' => h3 (j + 1) (by omega) e' (by simpa using he'), by simpa using h4, by rw [h5]; congr 2; omega⟩)
      obtain ⟨q1, q2⟩ := heq false hke
      exact ⟨fun e1 d hd => by simp only [Instr.findNow, q1 e1 d hd]; exact ih.1 e1 d hd, by simp only [Instr.findAsking, Sem.run_bind, q2, Result.andThen_ok]; exact ih.2⟩
    · cases hx

end Go.Am

/- The abstract machine, 13: maps; values built of parts; clear; nil. -/
namespace Go.Am
variable {P : Program} {G : Nat → V} {ρ : Ren} {h : Heap} {w : World} {N : Nat} {a : Tm} {act : Act}

def setBlock (w : World) (b : Nat) (o : Obj) : World := { w with heap := w.heap.setIfInBounds b o }

theorem run_find {t : TypeId} {kn : Option Nat} (ht : KeyT P t kn) {k : V} {u : Value} (hk : isKey kn k = true) (r : RV ρ w k u) {es : List En} {ents : Array MapEntry} (he : EntsOk ρ w es ents) {x : Option (V × Nat)} (hx : findV kn k es = some x) :
    ∃ goal, (Instr.findKey t u ents.toList).run P w = .ok goal w ∧ (x = none → goal = none) ∧ ∀ v n, x = some (v, n) → ∃ (i : Nat) (e : En) (y : MapEntry), es[i]? = some e ∧ keyEq kn k e.key = some true ∧ v = e.val ∧ n = e.born ∧ ents[i]? = some y ∧ goal = some (i, y.val) ∧
      (∀ u, putAt kn k u es = es.set i ⟨k, u.getD e.val, e.born⟩) ∧ dropV kn k es = es.eraseIdx i := by
  have sp := findV_spec hx
  have hents : ∀ (j : Nat) (e : En), es[j]? = some e → ∃ y : MapEntry, ents.toList[j]? = some y ∧ RV ρ w e.key y.key ∧ RV ρ w e.val y.val ∧ y.born = e.born := fun j e hj => by
    obtain ⟨y, h1, h2⟩ := he.2 j e hj
    exact ⟨y, by simpa using h1, h2⟩
  have fin : ∀ goal, (match x with | none => goal = none | some _ => ∃ i e y, es[i]? = some e ∧ keyEq kn k e.key = some true ∧ (∀ j, j < i → ∀ e', es[j]? = some e' → keyEq kn k e'.key = some false) ∧ ents.toList[i]? = some y ∧ goal = some (0 + i, y.val)) →
      (Instr.findKey t u ents.toList).run P w = .ok goal w := by
    intro goal hg
    obtain ⟨q1, q2⟩ := run_findKey' ht hk r es ents.toList 0 x hx (by simpa using he.1) hents goal hg
    rcases ht.ex with ⟨hn, kk, hu⟩ | ⟨n, hn, hi⟩
    · simp [Instr.findKey, run_underlying hu, q1 hn _ hu]
    · obtain ⟨e, k0, i0, h1, _⟩ := hi.ex
      cases hl : ents.toList with
      | nil =>
        have : es = [] := List.eq_nil_of_length_eq_zero (by rw [← he.1]; simpa using congrArg List.length hl)
        subst this
        simp [findV] at hx
        subst hx
        simp only at hg
        subst hg
        simp [Instr.findKey, run_underlying h1, Instr.findNow]
      | cons y ys =>
        rw [hl] at q2
        have : Instr.findNow (.array n e) u (y :: ys) 0 = none := by
          simp only [Instr.findNow, Instr.sameNow]
        simp [Instr.findKey, run_underlying h1, this, q2]
  cases x with
  | none => exact ⟨none, fin none rfl, fun _ => rfl, fun v n e => by cases e⟩
  | some vn =>
    obtain ⟨v, n⟩ := vn
    obtain ⟨i, e, h1, h2, h3, h4, h5, h6, h7⟩ := sp
    obtain ⟨y, hy, _⟩ := hents i e h1
    refine ⟨some (i, y.val), fin _ ⟨i, e, y, h1, h2, h3, hy, by simp⟩, (fun e => by cases e), fun v' n' e' => ?_⟩
    injection e' with e'
    injection e' with e1 e2
    subst e1 e2
    exact ⟨i, e, y, h1, h2, h4, h5, by simpa using hy, rfl, h6, h7⟩

theorem RV.map_inv {m : Nat} {x : Value} (r : RV ρ w (.map m) x) : ∃ b, ρ.map m = some b ∧ x = .map (some b) := by
  cases r
  exact ⟨_, ‹_›, rfl⟩

theorem Rel.mapAt (R : Rel G ρ h w) {m b : Nat} {es : List En} {cl : Nat} (e : h.obj m = some (.map es cl)) (hρ : ρ.map m = some b) : ∃ ents : Array MapEntry, w.heap[b]? = some (.map ents cl) ∧ EntsOk ρ w es ents := by
  obtain ⟨r, ents, h1, _, h2, h3⟩ := R.map m es cl e
  rw [hρ] at h1
  injection h1 with h1
  subst h1
  exact ⟨ents, h2, h3⟩

theorem findK_some {kn : Option Nat} {k : V} {es : List En} {x : Option (V × Nat)} (e : findK kn k es = some x) : isKey kn k = true ∧ findV kn k es = some x := by
  unfold findK at e
  split at e
  · exact ⟨‹_›, e⟩
  · cases e

theorem findK_nil {kn : Option Nat} {k : V} {x : Option (V × Nat)} (e : findK kn k [] = some x) : isKey kn k = true ∧ x = none := by
  obtain ⟨h1, h2⟩ := findK_some e
  simp [findV] at h2
  exact ⟨h1, h2.symm⟩

theorem sound_lookup (R : Rel G ρ h w) {t kt et : TypeId} {kn : Option Nat} {z : V} {x i : Operand} {ok : Bool} {b c v : V} {o : Oper} (ho : o.op = .lookup t x i ok) (h1 : P.underlying t = some (.map kt et)) (h2 : keyT P kt = some kn) (h3 : zeroT P et = some z)
    (hx : RV ρ w b (act.eval x)) (hi : RV ρ w c (act.eval i)) {q : Option (V × Nat)} (hq : lookV h kn b c = some q) (hv : v = lookR ok z q) : Snd P G ρ w act o v h := by
  obtain ⟨ti, zv, hi1, hi2, hi3⟩ := zeroT_some h3
  have zr := (cV_sound (ρ := ρ) (w := w) hi3).1
  have ht := keyT_some h2
  have key : ∀ (u : Value) (f : Bool), (Instr.lookup t (act.eval x) (act.eval i) ok).run P w = .ok (if ok then .tuple #[u, .bool f] else u) w →
      ((∃ y n, q = some (y, n) ∧ RV ρ w y u ∧ f = true) ∨ (q = none ∧ u = zv ∧ f = false)) → Snd P G ρ w act o v h := by
    intro u f hrun hq
    refine Snd.pure R (x := if ok then .tuple #[u, .bool f] else u) (by simp [execOp, ho, hrun]) ?_
    have mk : ∀ y : V, RV ρ w y u → v = (if ok then V.tup [y, .bool f] else y) → RV ρ w v (if ok then .tuple #[u, .bool f] else u) := by
      intro y hy e
      subst e
      cases ok
      · simpa using hy
      · refine .tup _ _ rfl (fun j w' hj => ?_)
        cases j with
        | zero => simp at hj; subst hj; simpa using hy
        | succ j =>
          cases j with
          | zero => simp at hj; subst hj; exact .bool f
          | succ j => simp at hj
    rcases hq with ⟨y, n, rfl, hy, rfl⟩ | ⟨rfl, rfl, rfl⟩
    · exact mk y hy hv
    · exact mk z zr hv
  unfold lookV at hq
  split at hq
  · obtain ⟨hk, rfl⟩ := findK_nil hq
    have hck := run_checkKey' (P := P) ht hk hi true
    have hu : act.eval x = .map none := by
      generalize act.eval x = u at hx
      cases hx
      rfl
    have hfk : (Instr.findKey kt (act.eval i) []).run P w = .ok none w := by
      obtain ⟨g, g1, g2, _⟩ := run_find (P := P) (es := []) (ents := #[]) (x := none) ht hk hi ⟨rfl, fun j e he => by simp at he⟩ rfl
      rw [g2 rfl] at g1
      simpa using g1
    refine key zv false ?_ (.inr ⟨rfl, rfl, rfl⟩)
    rw [hu]
    cases ok <;> simp [Instr.lookup, run_underlying h1, hck, hfk, run_zeroValue hi1 hi2]
  · split at hq
    · rename_i es cl hob
      obtain ⟨hk, hf⟩ := findK_some hq
      obtain ⟨bk, hρ, hu⟩ := hx.map_inv
      obtain ⟨ents, he1, he2⟩ := R.mapAt hob hρ
      have hck := run_checkKey' (P := P) ht hk hi ents.isEmpty
      obtain ⟨g, g1, g2, g3⟩ := run_find (P := P) ht hk hi he2 hf
      have hge := MapKept.run_getObj_map (P := P) he1
      cases q with
      | none =>
        have := g2 rfl
        subst this
        refine key zv false ?_ (.inr ⟨rfl, rfl, rfl⟩)
        rw [hu]
        cases ok <;> simp [Instr.lookup, run_underlying h1, hge, hck, g1, run_zeroValue hi1 hi2]
      | some p =>
        obtain ⟨y0, n0⟩ := p
        obtain ⟨i', e, y, k1, k2, k3, k4, k5, k6, _⟩ := g3 _ _ rfl
        subst k6
        obtain ⟨y', p1, p2, p3, p4⟩ := he2.2 i' e k1
        rw [k5] at p1
        injection p1 with p1
        subst p1
        refine key y.val true ?_ (.inl ⟨_, _, rfl, by rw [k3]; exact p3, rfl⟩)
        rw [hu]
        cases ok <;> simp [Instr.lookup, run_underlying h1, hge, hck, g1]
    · cases hq
  · cases hq

theorem modify_at (ents : Array MapEntry) (i : Nat) (f : MapEntry → MapEntry) (j : Nat) : (ents.modify i f)[j]? = if i = j then (ents[j]?).map f else ents[j]? := Array.getElem?_modify

theorem EntsOk.set {es : List En} {ents : Array MapEntry} (he : EntsOk ρ w es ents) (i : Nat) (e : En) (f : MapEntry → MapEntry) (hf : ∀ y, ents[i]? = some y → RV ρ w e.key (f y).key ∧ RV ρ w e.val (f y).val ∧ (f y).born = e.born) :
    EntsOk ρ w (es.set i e) (ents.modify i f) := by
  refine ⟨by simpa using he.1, fun j e' hj => ?_⟩
  rw [List.getElem?_set] at hj
  rw [modify_at]
  by_cases hij : i = j
  · subst hij
    rw [if_pos rfl] at hj
    split at hj
    · rename_i hl
      injection hj with hj
      subst hj
      rw [if_pos rfl]
      have : i < ents.size := by rw [he.1]; exact hl
      refine ⟨f ents[i], by simp [this], hf _ (by simp [this])⟩
    · cases hj
  · rw [if_neg hij] at hj ⊢
    exact he.2 j e' hj

theorem EntsOk.push {es : List En} {ents : Array MapEntry} (he : EntsOk ρ w es ents) (e : En) (y : MapEntry) (hy : RV ρ w e.key y.key ∧ RV ρ w e.val y.val ∧ y.born = e.born) : EntsOk ρ w (es ++ [e]) (ents.push y) := by
  refine ⟨by simp [he.1], fun j e' hj => ?_⟩
  by_cases hl : j < es.length
  · rw [List.getElem?_append_left hl] at hj
    obtain ⟨x, hx, r⟩ := he.2 j e' hj
    refine ⟨x, ?_, r⟩
    rw [Array.getElem?_push, if_neg (by rw [he.1]; omega)]
    exact hx
  · rw [List.getElem?_append_right (by omega)] at hj
    have : j = es.length := by
      have := (List.getElem?_eq_some_iff.1 hj).1
      simp at this
      omega
    subst this
    simp at hj
    subst hj
    exact ⟨y, by rw [← he.1]; simp, hy⟩

theorem run_keyStays {kn : Option Nat} {k : V} {u : Value} (hk : isKey kn k = true) (r : RV ρ w k u) : (Instr.keyThatStays u u).run P w = .ok u w := by
  simp [Instr.keyThatStays, sameBits_key hk r]

theorem setBlock_map (R : Rel G ρ h w) {m : Nat} {es es' : List En} {cl cl' bk : Nat} {ents ents' : Array MapEntry} (hob : h.obj m = some (.map es cl)) (hρ : ρ.map m = some bk) (he1 : w.heap[bk]? = some (.map ents cl)) (he : EntsOk ρ w es' ents') :
    Step ρ w ρ (setBlock w bk (.map ents' cl')) ∧ Rel G ρ (h.set m (.map es' cl')) (setBlock w bk (.map ents' cl')) := by
  have hlt := heap_lt he1
  exact R.setMap m es es' cl cl' bk ents' _ hob hρ (by simp [setBlock, hlt]) (fun k hk => by simp [setBlock, Array.getElem?_setIfInBounds, Ne.symm hk]) (by simp [setBlock]) he rfl rfl rfl

theorem sound_mupd (R : Rel G ρ h w) {t kt et : TypeId} {kn : Option Nat} {x i y : Operand} {m : Nat} {es : List En} {cl : Nat} {c d : V} {o : Oper} (ho : o.op = .mapUpdate t x i y) (h1 : P.underlying t = some (.map kt et)) (h2 : keyT P kt = some kn)
    (hx : RV ρ w (.map m) (act.eval x)) (hi : RV ρ w c (act.eval i)) (hy : RV ρ w d (act.eval y)) (hob : h.obj m = some (.map es cl)) {q : Option (V × Nat)} (hq : findK kn c es = some q) :
    Snd P G ρ w act o .undef (updMap h m kn c d es cl q) := by
  have ht := keyT_some h2
  obtain ⟨hk, hf⟩ := findK_some hq
  obtain ⟨bk, hρ, hu⟩ := hx.map_inv
  obtain ⟨ents, he1, he2⟩ := R.mapAt hob hρ
  have hck := run_checkKey' (P := P) ht hk hi false
  obtain ⟨g, g1, g2, g3⟩ := run_find (P := P) ht hk hi he2 hf
  have hge := MapKept.run_getObj_map (P := P) he1
  cases q with
  | none =>
    have := g2 rfl
    subst this
    obtain ⟨st, R'⟩ := setBlock_map (cl' := cl + 1) R hob hρ he1 (he2.push ⟨c, d, cl⟩ { key := act.eval i, val := act.eval y, born := cl } ⟨hi, hy, rfl⟩)
    refine ⟨.skip, _, _, ρ, ?_, rfl, st, R', .undef _⟩
    simp [execOp, ho, hu, Instr.mapUpdate, run_underlying h1, hge, hck, g1, MapKept.run_setObj_map _ he1, Result.andThen, setBlock]
  | some p =>
    obtain ⟨y0, n0⟩ := p
    obtain ⟨i', e, y', k1, k2, k3, k4, k5, k6, k7, _⟩ := g3 _ _ rfl
    subst k6
    obtain ⟨y'', p1, p2, p3, p4⟩ := he2.2 i' e k1
    rw [k5] at p1
    injection p1 with p1
    subst p1
    have hsame := (key_same k2 hi p2).1
    have hst := run_keyStays (P := P) hk hi
    obtain ⟨st, R'⟩ := setBlock_map (cl' := cl) R hob hρ he1 (he2.set i' ⟨c, d, e.born⟩ (fun z => { z with key := act.eval i, val := act.eval y }) (fun z hz => ⟨hi, hy, by rw [k5] at hz; injection hz with hz; subst hz; exact p4⟩))
    refine ⟨.skip, _, _, ρ, ?_, rfl, st, ?_, .undef _⟩
    · simp [execOp, ho, hu, Instr.mapUpdate, run_underlying h1, hge, hck, g1, k5, ← hsame, hst, MapKept.run_setObj_map _ he1, Result.andThen, setBlock]
    · simp only [updMap, touchMap, k7]
      exact R'

theorem sound_mentry (R : Rel G ρ h w) {t kt et : TypeId} {kn : Option Nat} {z : V} {x i : Operand} {m : Nat} {es : List En} {cl : Nat} {c : V} {o : Oper} (ho : o.op = .mapEntry t x i) (h1 : P.underlying t = some (.map kt et)) (h2 : keyT P kt = some kn) (h3 : zeroT P et = some z)
    (hx : RV ρ w (.map m) (act.eval x)) (hi : RV ρ w c (act.eval i)) (hob : h.obj m = some (.map es cl)) {q : Option (V × Nat)} (hq : findK kn c es = some q) :
    Snd P G ρ w act o (entMap z cl q) (touchMap h m kn c z es cl q) := by
  obtain ⟨ti, zv, hi1, hi2, hi3⟩ := zeroT_some h3
  have zr := (cV_sound (ρ := ρ) (w := w) hi3).1
  have ht := keyT_some h2
  obtain ⟨hk, hf⟩ := findK_some hq
  obtain ⟨bk, hρ, hu⟩ := hx.map_inv
  obtain ⟨ents, he1, he2⟩ := R.mapAt hob hρ
  have hck := run_checkKey' (P := P) ht hk hi false
  obtain ⟨g, g1, g2, g3⟩ := run_find (P := P) ht hk hi he2 hf
  have hge := MapKept.run_getObj_map (P := P) he1
  have tup : ∀ (u : Value) (y : V) (n : Nat) (ρ' : Ren) (w' : World), RV ρ' w' y u → RV ρ' w' (.tup [y, .int .i64 n]) (.tuple #[u, .int .i64 n]) := by
    intro u y n ρ' w' hy
    refine .tup _ _ rfl (fun j w' hj => ?_)
    cases j with
    | zero => simp at hj; subst hj; simpa using hy
    | succ j =>
      cases j with
      | zero => simp at hj; subst hj; exact .int _ _
      | succ j => simp at hj
  cases q with
  | none =>
    have := g2 rfl
    subst this
    obtain ⟨st, R'⟩ := setBlock_map (cl' := cl + 1) R hob hρ he1 (he2.push ⟨c, z, cl⟩ { key := act.eval i, val := zv, born := cl } ⟨hi, zr, rfl⟩)
    refine ⟨.value (.tuple #[zv, .int .i64 cl]), _, _, ρ, ?_, rfl, st, R', tup _ _ _ _ _ (zr.mono st.toLe)⟩
    simp [execOp, ho, hu, Instr.mapEntry, run_underlying h1, hge, hck, g1, run_zeroValue hi1 hi2, MapKept.run_setObj_map _ he1, Result.andThen, setBlock, goInt]
  | some p =>
    obtain ⟨y0, n0⟩ := p
    obtain ⟨i', e, y', k1, k2, k3, k4, k5, k6, k7, _⟩ := g3 _ _ rfl
    subst k6
    obtain ⟨y'', p1, p2, p3, p4⟩ := he2.2 i' e k1
    rw [k5] at p1
    injection p1 with p1
    subst p1
    have hsame := (key_same k2 hi p2).1
    have hst := run_keyStays (P := P) hk hi
    obtain ⟨st, R'⟩ := setBlock_map (cl' := cl) R hob hρ he1 (he2.set i' ⟨c, e.val, e.born⟩ (fun z => { z with key := act.eval i }) (fun z hz => by rw [k5] at hz; injection hz with hz; subst hz; exact ⟨hi, p3, p4⟩))
    refine ⟨.value (.tuple #[y'.val, .int .i64 y'.born]), _, _, ρ, ?_, rfl, st, ?_, ?_⟩
    · simp [execOp, ho, hu, Instr.mapEntry, run_underlying h1, hge, hck, g1, k5, ← hsame, hst, MapKept.run_setObj_map _ he1, Result.andThen, setBlock, goInt]
    · simp only [updMap, touchMap, k7]
      exact R'
    · simp only [entMap, k3, k4, ← p4]
      exact tup _ _ _ _ _ (p3.mono st.toLe)

theorem EntsOk.findIdx {n : Nat} : ∀ {es : List En} {ents : List MapEntry}, ents.length = es.length → (∀ (j : Nat) (e : En), es[j]? = some e → ∃ y : MapEntry, ents[j]? = some y ∧ y.born = e.born) → ∀ {v : V} {es' : List En}, putBorn n v es = some es' →
    ∃ i e, es[i]? = some e ∧ es' = es.set i { e with val := v } ∧ ents.findIdx? (fun y => (y.born : Int) == (n : Int)) = some i
  | [], _, _, _, _, _, e => by simp [putBorn] at e
  | e :: es, [], hl, _, _, _, _ => by simp at hl
  | e :: es, y :: ents, hl, hy, v, es', hp => by
    obtain ⟨y', q1, q2⟩ := hy 0 e rfl
    simp at q1
    subst q1
    unfold putBorn at hp
    split at hp
    · rename_i hb
      injection hp with hp
      subst hp
      refine ⟨0, e, rfl, rfl, ?_⟩
      simp [List.findIdx?_cons, q2, hb]
    · rename_i hb
      rw [Option.map_eq_some_iff] at hp
      obtain ⟨es1, h1, rfl⟩ := hp
      obtain ⟨i, e1, k1, k2, k3⟩ := EntsOk.findIdx (es := es) (ents := ents) (by simpa using hl) (fun j e hj => hy (j + 1) e hj) h1
      refine ⟨i + 1, e1, k1, by rw [k2]; rfl, ?_⟩
      have : ¬ (y.born : Int) = (n : Int) := by rw [q2]; intro e; exact hb (by exact_mod_cast e)
      simp [List.findIdx?_cons, this, k3]

theorem sound_estore (R : Rel G ρ h w) {t : TypeId} {x s y : Operand} {m n : Nat} {es es' : List En} {cl : Nat} {d : V} {o : Oper} (ho : o.op = .entryStore t x s y)
    (hx : RV ρ w (.map m) (act.eval x)) (hs : RV ρ w (.int .i64 n) (act.eval s)) (hy : RV ρ w d (act.eval y)) (hob : h.obj m = some (.map es cl)) (hp : putBorn n d es = some es') :
    Snd P G ρ w act o .undef (h.set m (.map es' cl)) := by
  obtain ⟨bk, hρ, hu⟩ := hx.map_inv
  obtain ⟨ents, he1, he2⟩ := R.mapAt hob hρ
  have hge := MapKept.run_getObj_map (P := P) he1
  obtain ⟨i, e, k1, k2, k3⟩ := EntsOk.findIdx (ents := ents.toList) (by simpa using he2.1) (fun j e hj => by obtain ⟨y, a1, _, _, a2⟩ := he2.2 j e hj; exact ⟨y, by simpa using a1, a2⟩) hp
  obtain ⟨y', p1, p2, p3, p4⟩ := he2.2 i e k1
  have hfi : ents.findIdx? (fun y => (y.born : Int) == (n : Int)) = some i := by cases ents; simpa using k3
  obtain ⟨st, R'⟩ := setBlock_map (cl' := cl) R hob hρ he1 (he2.set i { e with val := d } (fun z => { z with val := act.eval y }) (fun z hz => by rw [p1] at hz; injection hz with hz; subst hz; exact ⟨p2, hy, p4⟩))
  subst k2
  refine ⟨.skip, _, _, ρ, ?_, rfl, st, R', .undef _⟩
  simp [execOp, ho, hu, hs.int_inv, Instr.entryStore, hge, asInt, asIntOf, hfi, MapKept.run_setObj_map _ he1, Result.andThen, setBlock]

end Go.Am

/- The abstract machine, 14: maps, what is left; values built of parts; clear; nil. -/
namespace Go.Am
variable {P : Program} {G : Nat → V} {ρ : Ren} {h : Heap} {w : World} {N : Nat} {a : Tm} {act : Act}

theorem setBlock_same {bk : Nat} {x : Obj} (e : w.heap[bk]? = some x) : (setBlock w bk x).heap = w.heap := by
  have hlt := heap_lt e
  have he : w.heap[bk] = x := by
    rw [Array.getElem?_eq_getElem hlt] at e
    injection e
  simp only [setBlock]
  apply Array.ext (by simp)
  intro i h1 h2
  rw [Array.getElem_setIfInBounds]
  split
  · rename_i e1; subst e1; exact he.symm
  · rfl

theorem EntsOk.erase {es : List En} {ents : Array MapEntry} (he : EntsOk ρ w es ents) (i : Nat) (hi : i < es.length) : EntsOk ρ w (es.eraseIdx i) (ents.eraseIdxIfInBounds i) := by
  have hi' : i < ents.size := by rw [he.1]; exact hi
  have e : ents.eraseIdxIfInBounds i = ents.eraseIdx i hi' := by simp [Array.eraseIdxIfInBounds, hi']
  rw [e]
  refine ⟨by simp [List.length_eraseIdx, hi, he.1], fun j e' hj => ?_⟩
  rw [List.getElem?_eraseIdx] at hj
  rw [Array.getElem?_eraseIdx]
  split at hj
  · rename_i hlt
    rw [if_pos hlt]
    exact he.2 j e' hj
  · rename_i hlt
    rw [if_neg hlt]
    exact he.2 (j + 1) e' hj

theorem sound_delete (R : Rel G ρ h w) {t kt et : TypeId} {kn : Option Nat} {x i : Operand} {m : Nat} {es : List En} {cl : Nat} {k : V} {c : Call} {o : Oper} (ho : o.op = .call c) (hc : c.callee = .builtin .delete) (hargs : c.args.toList = [x, i]) (hat : c.argTypes[0]? = some t)
    (h1 : P.underlying t = some (.map kt et)) (h2 : keyT P kt = some kn)
    (hx : RV ρ w (.map m) (act.eval x)) (hi : RV ρ w k (act.eval i)) (hob : h.obj m = some (.map es cl)) {q : Option (V × Nat)} (hq : findK kn k es = some q) :
    Snd P G ρ w act o (.tup []) (outMap h m kn k es cl q) := by
  have ht := keyT_some h2
  have hargs : c.args = #[x, i] := by rw [← Array.toList_inj, hargs]
  obtain ⟨hk, hf⟩ := findK_some hq
  obtain ⟨bk, hρ, hu⟩ := hx.map_inv
  obtain ⟨ents, he1, he2⟩ := R.mapAt hob hρ
  have hck := run_checkKey' (P := P) ht hk hi ents.isEmpty
  obtain ⟨g, g1, g2, g3⟩ := run_find (P := P) ht hk hi he2 hf
  have hge := MapKept.run_getObj_map (P := P) he1
  have tup : ∀ (ρ' : Ren) (w' : World), RV ρ' w' (.tup []) (.tuple #[]) := fun ρ' w' => .tup _ _ rfl (fun j w' hj => by simp at hj)
  cases q with
  | none =>
    have := g2 rfl
    subst this
    have hsame := setBlock_same he1
    have st : Step ρ w ρ (setBlock w bk (.map ents cl)) := ⟨⟨fun _ _ h => h, fun _ _ h => h, fun _ h => h, fun _ _ => by rw [hsame]⟩, by rw [hsame]; exact Nat.le_refl _, rfl, rfl, rfl⟩
    refine ⟨.value (.tuple #[]), _, _, ρ, ?_, rfl, st, R.same hsame, tup _ _⟩
    simp [execOp, ho, resolve, hc, hargs, invoke, builtin, Builtin.delete_, hat, hu, run_underlying h1, hge, hck, g1, MapKept.run_setObj_map _ he1, Result.andThen, setBlock]
  | some p =>
    obtain ⟨y0, n0⟩ := p
    obtain ⟨i', e, y', k1, k2, k3, k4, k5, k6, k7, k8⟩ := g3 _ _ rfl
    subst k6
    obtain ⟨st, R'⟩ := setBlock_map (cl' := cl) R hob hρ he1 (he2.erase i' (List.getElem?_eq_some_iff.1 k1).1)
    refine ⟨.value (.tuple #[]), _, _, ρ, ?_, rfl, st, ?_, tup _ _⟩
    · simp [execOp, ho, resolve, hc, hargs, invoke, builtin, Builtin.delete_, hat, hu, run_underlying h1, hge, hck, g1, MapKept.run_setObj_map _ he1, Result.andThen, setBlock]
    · simp only [outMap, k8]
      exact R'

theorem sound_lenM (R : Rel G ρ h w) {t kt et : TypeId} {x : Operand} {c : Call} {b : V} {v : V} {o : Oper} (ho : o.op = .call c) (hc : c.callee = .builtin .len) (hargs : c.args.toList = [x]) (hat : c.argTypes[0]? = some t)
    (ht : P.underlying t = some (.map kt et)) (hx : RV ρ w b (act.eval x)) (hs : stepI G a h (.lenM (.c b)) = some (v, h)) : Snd P G ρ w act o v h := by
  have hargs : c.args = #[x] := by rw [← Array.toList_inj, hargs]
  simp only [stepI, Opd.ev] at hs
  split at hs
  · injection hs with hs
    injection hs with hs _
    subst hs
    have hu : act.eval x = .map none := by
      generalize act.eval x = u at hx
      cases hx
      rfl
    refine Snd.pure R (x := .int .i64 0) ?_ (.int _ _)
    simp [execOp, ho, resolve, hc, hargs, invoke, builtin, Builtin.len_, hat, hu, run_underlying ht, goInt]
  · split at hs
    · rename_i es cl hob
      injection hs with hs
      injection hs with hs _
      subst hs
      obtain ⟨bk, hρ, hu⟩ := hx.map_inv
      obtain ⟨ents, he1, he2⟩ := R.mapAt hob hρ
      have hge := MapKept.run_getObj_map (P := P) he1
      refine Snd.pure R (x := .int .i64 es.length) ?_ (.int _ _)
      simp [execOp, ho, resolve, hc, hargs, invoke, builtin, Builtin.len_, hat, hu, run_underlying ht, goInt, hge, he2.1]
    · cases hs
  · cases hs

theorem sound_lenN (R : Rel G ρ h w) {t : TypeId} {n : Nat} {x : Operand} {c : Call} {o : Oper} (ho : o.op = .call c) (hc : c.callee = .builtin .len) (hargs : c.args.toList = [x]) (hat : c.argTypes[0]? = some t)
    (ht : (∃ e, P.underlying t = some (.array n e)) ∨ ∃ p e, P.underlying t = some (.pointer p) ∧ P.underlying p = some (.array n e)) : Snd P G ρ w act o (.int .i64 n) h := by
  have hargs : c.args = #[x] := by rw [← Array.toList_inj, hargs]
  refine Snd.pure R (x := .int .i64 n) ?_ (.int _ _)
  rcases ht with ⟨e, ht⟩ | ⟨p, e, ht, hp⟩
  · simp [execOp, ho, resolve, hc, hargs, invoke, builtin, Builtin.len_, hat, run_underlying ht, goInt]
  · simp [execOp, ho, resolve, hc, hargs, invoke, builtin, Builtin.len_, hat, run_underlying ht, run_underlying hp, goInt]

theorem sound_mkmap (R : Rel G ρ h w) {t : TypeId} {o : Oper} (ho : o.op = .makeMap t none) : Snd P G ρ w act o (.map h.next) (h.alloc (.map [] 0)) := by
  obtain ⟨ρ', st, R', e⟩ := R.allocMap (w.alloc (.map #[] 0)) rfl rfl rfl rfl
  refine ⟨.value (.map (some w.heap.size)), _, _, ρ', ?_, rfl, st, R', .map _ _ e⟩
  simp [execOp, ho, Instr.makeMap]

/-! ### values built of parts -/

theorem setFold_at (off : Nat) : ∀ (us : List Value) (s : Nat) (cells : Array Value) (k : Nat), off + s + us.length ≤ cells.size →
    ((us.zipIdx s).foldl (fun cs (p : Value × Nat) => cs.setIfInBounds (off + p.2) p.1) cells)[k]? = if off + s ≤ k ∧ k < off + s + us.length then us[k - (off + s)]? else cells[k]?
  | [], s, cells, k, hl => by
    simp
    intro h1 h2
    omega
  | u :: us, s, cells, k, hl => by
    simp only [List.length_cons] at hl
    simp only [List.zipIdx_cons, List.foldl_cons]
    rw [setFold_at off us (s + 1) _ k (by simp; omega)]
    simp only [List.length_cons]
    by_cases h1 : off + s = k
    · subst h1
      rw [if_neg (by omega), if_pos (by omega)]
      simp [Array.getElem?_setIfInBounds, show off + s < cells.size by omega]
    · rw [Array.getElem?_setIfInBounds, if_neg h1]
      by_cases h2 : off + (s + 1) ≤ k ∧ k < off + (s + 1) + us.length
      · rw [if_pos h2, if_pos (by omega)]
        have : k - (off + s) = k - (off + (s + 1)) + 1 := by omega
        rw [this, List.getElem?_cons_succ]
      · rw [if_neg h2, if_neg (by omega)]

/-- Rows of cells, side by side. -/
def CellsOk (ρ : Ren) (w : World) (xs : List V) (cells : Array Value) : Prop := cells.size = xs.length ∧ ∀ (j : Nat) (u : V), xs[j]? = some u → ∃ v : Value, cells[j]? = some v ∧ RV ρ w u v

theorem setFold_size (off : Nat) (us : List (Value × Nat)) : ∀ (cells : Array Value), (us.foldl (fun cs (p : Value × Nat) => cs.setIfInBounds (off + p.2) p.1) cells).size = cells.size := by
  induction us with
  | nil => intro cells; rfl
  | cons u us ih => intro cells; simp only [List.foldl_cons]; rw [ih]; simp

theorem CellsOk.put {xs : List V} {cells : Array Value} (hc : CellsOk ρ w xs cells) {v : V} {x : Value} (r : RV ρ w v x) (hs : v.sane = true) (off : Nat) (hl : off + v.cells.length ≤ xs.length) :
    x.cells.size = v.cells.length ∧ CellsOk ρ w (splice xs off v.cells) (x.cells.zipIdx.foldl (fun cs (c, j) => cs.setIfInBounds (off + j) c) cells) := by
  obtain ⟨q1, q2⟩ := r.cellsU hs
  have hz : x.cells.size = v.cells.length := by simpa using q1
  refine ⟨hz, ?_⟩
  have e : x.cells.zipIdx.foldl (fun cs (c, j) => cs.setIfInBounds (off + j) c) cells = (x.cells.toList.zipIdx 0).foldl (fun cs (p : Value × Nat) => cs.setIfInBounds (off + p.2) p.1) cells := by
    rw [← Array.foldl_toList]
    simp [Array.toList_zipIdx]
  rw [e]
  refine ⟨?_, fun j u hu => ?_⟩
  · rw [setFold_size, splice_length, hc.1]
  · rw [setFold_at off _ 0 cells j (by rw [hc.1, q1]; omega)]
    rw [splice_at _ _ _ hl] at hu
    simp only [Nat.add_zero, q1]
    split at hu
    · rename_i hj
      rw [if_pos hj]
      exact q2 _ _ hu
    · rename_i hj
      rw [if_neg hj]
      exact hc.2 j u hu

theorem fill_sound {place : Nat → Option (Nat × Nat)} : ∀ (ps : List (Nat × Nat × V)) (qs : List (Nat × Value)) (xs ys : List V) (cells : Array Value), ps.length = qs.length →
    (∀ (j : Nat) (p : Nat × Nat × V), ps[j]? = some p → ∃ q : Nat × Value, qs[j]? = some q ∧ place q.1 = some (p.1, p.2.1) ∧ RV ρ w p.2.2 q.2) → CellsOk ρ w xs cells → fillV xs ps = some ys →
    ∃ cells', Instr.fill place cells qs = some cells' ∧ CellsOk ρ w ys cells'
  | [], [], xs, ys, cells, _, _, hc, hf => by
    simp [fillV] at hf
    subst hf
    exact ⟨cells, by simp [Instr.fill], hc⟩
  | [], _ :: _, _, _, _, hl, _, _, _ => by simp at hl
  | _ :: _, [], _, _, _, hl, _, _, _ => by simp at hl
  | (off, size, v) :: ps, (i, x) :: qs, xs, ys, cells, hl, hp, hc, hf => by
    unfold fillV at hf
    split at hf
    · rename_i hcond
      obtain ⟨k1, k2, k3⟩ := hcond
      obtain ⟨q, e1, e2, e3⟩ := hp 0 _ rfl
      simp at e1
      subst e1
      simp only at e2 e3
      obtain ⟨hz, hc'⟩ := hc.put e3 k3 off (by omega)
      obtain ⟨cells', f1, f2⟩ := fill_sound ps qs _ ys _ (by simpa using hl) (fun j p hj => hp (j + 1) p hj) hc' hf
      refine ⟨cells', ?_, f2⟩
      unfold Instr.fill
      rw [e2]
      simp only
      rw [if_neg (by simp [hz, k1, hc.1]; omega)]
      exact f1
    · cases hf

theorem cParts_spec {place : Nat → Option (Nat × Nat)} : ∀ {ps : List (Nat × Operand)} {qs : List (Nat × Nat × Opd)}, cParts place ps = some qs →
    qs.length = ps.length ∧ ∀ (j : Nat) (q : Nat × Nat × Opd), qs[j]? = some q → ∃ p : Nat × Operand, ps[j]? = some p ∧ place p.1 = some (q.1, q.2.1) ∧ cOpd p.2 = some q.2.2
  | [], qs, e => by simp [cParts] at e; subst e; exact ⟨rfl, fun j q hq => by simp at hq⟩
  | (i, x) :: ps, qs, e => by
    unfold cParts at e
    split at e
    · rename_i off sz y qs' e1 e2 e3
      injection e with e
      subst e
      obtain ⟨hl, hq⟩ := cParts_spec e3
      refine ⟨by simp [hl], fun j q hj => ?_⟩
      cases j with
      | zero => simp at hj; subst hj; exact ⟨_, rfl, e1, e2⟩
      | succ j => exact hq j q (by simpa using hj)
    · cases e

theorem parts_fill (R : Rel G ρ h w) (A : ActOk ρ w N a act) {place place' : Nat → Option (Nat × Nat)} (hpl : ∀ i, place i = place' i ∨ place i = none) {ps : List (Nat × Operand)} {qs : List (Nat × Nat × Opd)} (hc : cParts place ps = some qs)
    {xs ys : List V} {cells : Array Value} (hx : CellsOk ρ w xs cells) (hf : fillV xs (qs.map fun p => (p.1, p.2.1, p.2.2.ev G a)) = some ys) :
    ∃ cells', Instr.fill place' cells (ps.map fun p => (p.1, act.eval p.2)) = some cells' ∧ CellsOk ρ w ys cells' := by
  obtain ⟨hl, hq⟩ := cParts_spec hc
  refine fill_sound _ _ _ _ _ (by simp [hl]) (fun j p hj => ?_) hx hf
  rw [List.getElem?_map, Option.map_eq_some_iff] at hj
  obtain ⟨q, hj, rfl⟩ := hj
  obtain ⟨p, e1, e2, e3⟩ := hq j q hj
  refine ⟨(p.1, act.eval p.2), by simp [e1], ?_, ev_sound R A e3⟩
  rcases hpl p.1 with e | e
  · rw [← e]; exact e2
  · rw [e] at e2; cases e2

theorem CellsOk.agg {cs : List V} {vs : Array Value} (hc : CellsOk ρ w cs vs) : RV ρ w (.agg cs) (.agg vs) :=
  .agg _ _ hc.1 (fun j u hu => by
    obtain ⟨v, h1, h2⟩ := hc.2 j u hu
    have : vs.getD j Go.undef = v := by simp [Array.getD_eq_getD_getElem?, h1]
    rw [this]
    exact h2)

theorem RV.cellsOk {v : V} {x : Value} (r : RV ρ w v x) (hs : v.sane = true) : CellsOk ρ w v.cells x.cells := by
  obtain ⟨h1, h2⟩ := r.cellsU hs
  exact ⟨by simpa using h1, fun j u hu => by simpa using h2 j u hu⟩

theorem sound_build (R : Rel G ρ h w) (A : ActOk ρ w N a act) {t : TypeId} {parts : Array (Nat × Operand)} {z : V} {qs : List (Nat × Nat × Opd)} {cs : List V} {o : Oper} (ho : o.op = .build t parts) (hz : zeroT P t = some z)
    (hpl : (∃ fs places, P.underlying t = some (.struct fs) ∧ fs.toList.mapM (fun f => (P.info? f.type).map fun i => (f.offset, i.size)) = some places ∧ cParts (places.toArray[·]?) parts.toList = some qs) ∨
      ∃ n e k, P.underlying t = some (.array n e) ∧ szT P e = some k ∧ cParts (fun i => some (i * k, k)) parts.toList = some qs)
    (hf : fillV z.cells (qs.map fun p => (p.1, p.2.1, p.2.2.ev G a)) = some cs) : Snd P G ρ w act o (.agg cs) h := by
  obtain ⟨i, v, h1, h2, h3⟩ := zeroT_some hz
  obtain ⟨zr, zs⟩ := cV_sound (ρ := ρ) (w := w) h3
  have zc := zr.cellsOk zs
  have fin : ∀ cells : Array Value, P.built t ((parts.map fun (i, x) => (i, act.eval x)).toList) = some cells → CellsOk ρ w cs cells → Snd P G ρ w act o (.agg cs) h := by
    intro cells e1 e2
    refine Snd.pure R ?_ e2.agg
    simp [execOp, ho, run_build w t _ cells e1]
  have hm : (parts.map fun (i, x) => (i, act.eval x)).toList = parts.toList.map fun p => (p.1, act.eval p.2) := by simp
  rcases hpl with ⟨fs, places, q1, q2, q3⟩ | ⟨n, e, k, q1, q2, q3⟩
  · obtain ⟨cells, e1, e2⟩ := parts_fill R A (place' := (places.toArray[·]?)) (fun _ => .inl rfl) q3 zc hf
    refine fin cells ?_ e2
    simp only [Program.built, h1, q1, h2, q2]
    rw [hm]
    exact e1
  · obtain ⟨ie, r1, r2⟩ := szT_some q2
    subst r2
    obtain ⟨cells, e1, e2⟩ := parts_fill R A (place' := fun i => some (i * ie.size, ie.size)) (fun _ => .inl rfl) q3 zc hf
    refine fin cells ?_ e2
    simp only [Program.built, h1, q1, h2, r1]
    rw [hm]
    exact e1

/-- Setting an element is writing its cells. -/
theorem flat_splice (xs : List V) (s : Nat) (hs : ∀ x ∈ xs, x.cells.length = s) (i : Nat) (hi : i < xs.length) (y : V) (hy : y.cells.length = s) :
    (xs.set i y).flatMap V.cells = splice (xs.flatMap V.cells) (i * s) y.cells := by
  apply List.ext_getElem?
  intro j
  have hl : i * s + s ≤ xs.length * s := by rw [← Nat.succ_mul]; exact Nat.mul_le_mul_right s hi
  rw [flat_set xs s hs i hi y hy j, splice_at _ _ _ (by rw [flat_length _ _ hs, hy]; exact hl), hy]

theorem setParts_spec (sz : Nat) : ∀ (ps : List (Nat × V)) (xs ys : List V), setParts sz xs ps = some ys → (∀ x ∈ xs, x.sane = true ∧ x.cells.length = sz) →
    (∀ x ∈ ys, x.sane = true ∧ x.cells.length = sz) ∧ ys.length = xs.length ∧ fillV (xs.flatMap V.cells) (ps.map fun p => (p.1 * sz, sz, p.2)) = some (ys.flatMap V.cells)
  | [], xs, ys, e, hs => by
    simp [setParts] at e
    subst e
    exact ⟨hs, rfl, rfl⟩
  | (i, v) :: ps, xs, ys, e, hs => by
    unfold setParts at e
    split at e
    · rename_i hc
      obtain ⟨k1, k2, k3⟩ := hc
      have hs' : ∀ x ∈ xs.set i v, x.sane = true ∧ x.cells.length = sz := fun x hx => by
        rcases List.mem_or_eq_of_mem_set hx with hx | rfl
        · exact hs x hx
        · exact ⟨k3, k2⟩
      obtain ⟨q1, q2, q3⟩ := setParts_spec sz ps _ ys e hs'
      refine ⟨q1, by rw [q2]; simp, ?_⟩
      simp only [List.map_cons, fillV]
      have hl : i * sz + sz ≤ xs.length * sz := by rw [← Nat.succ_mul]; exact Nat.mul_le_mul_right sz k1
      rw [if_pos ⟨k2, by rw [flat_length _ _ (fun x hx => (hs x hx).2)]; exact hl, k3⟩, ← flat_splice xs sz (fun x hx => (hs x hx).2) i k1 v k2]
      exact q3
    · cases e

theorem cParts1uspec : ∀ {ps : List (Nat × Operand)} {qs : List (Nat × Opd)}, cParts1 ps = some qs →
    qs.length = ps.length ∧ ∀ (j : Nat) (q : Nat × Opd), qs[j]? = some q → ∃ p : Nat × Operand, ps[j]? = some p ∧ p.1 = q.1 ∧ cOpd p.2 = some q.2
  | [], qs, e => by simp [cParts1] at e; subst e; exact ⟨rfl, fun j q hq => by simp at hq⟩
  | (i, x) :: ps, qs, e => by
    unfold cParts1 at e
    split at e
    · rename_i y qs' e1 e2
      injection e with e
      subst e
      obtain ⟨hl, hq⟩ := cParts1uspec e2
      refine ⟨by simp [hl], fun j q hj => ?_⟩
      cases j with
      | zero => simp at hj; subst hj; exact ⟨_, rfl, rfl, e1⟩
      | succ j => exact hq j q (by simpa using hj)
    · cases e

theorem sound_bslice (R : Rel G ρ h w) (A : ActOk ρ w N a act) {t e : TypeId} {len sz : Nat} {parts : Array (Nat × Operand)} {z : V} {qs : List (Nat × Opd)} {xs : List V} {o : Oper} (ho : o.op = .buildSlice t len parts) (ht : P.underlying t = some (.slice e))
    (hz : zeroT P e = some z) (hsz : szT P e = some sz) (hc : cParts1 parts.toList = some qs) (h1 : z.cells.length = sz) (h2 : z.sane = true) (h3 : len * sz ≤ 16777216)
    (hs : setParts sz (List.replicate len z) (qs.map fun p => (p.1, p.2.ev G a)) = some xs) : Snd P G ρ w act o (.slc h.next 0 len len) (h.alloc (.arr e sz xs)) := by
  obtain ⟨i, zv, hi, hzv, hcz⟩ := zeroT_some hz
  obtain ⟨i', hi', rfl⟩ := szT_some hsz
  rw [hi] at hi'
  injection hi' with hi'
  subst hi'
  obtain ⟨zr, zs⟩ := cV_sound (ρ := ρ) (w := w) hcz
  obtain ⟨zc, zv'⟩ := zr.cells zs
  have hrep : ∀ x ∈ List.replicate len z, x.sane = true ∧ x.cells.length = i.size := fun x hx => by rw [List.eq_of_mem_replicate hx]; exact ⟨h2, h1⟩
  obtain ⟨p1, p2, p3⟩ := setParts_spec i.size _ _ _ hs hrep
  obtain ⟨hl, hq⟩ := cParts1uspec hc
  have main : ∀ zero : Array Value, (len * i.size = 0 → zero = #[]) → (len * i.size ≠ 0 → zero = zv.cells) →
      ∃ cells, Instr.fill (fun j => some (j * i.size, i.size)) ((Array.range (len * i.size)).map (zero[· % zero.size]!)) (parts.toList.map fun p => (p.1, act.eval p.2)) = some cells ∧ CellsOk ρ w (xs.flatMap V.cells) cells := by
    intro zero g1 g2
    refine fill_sound _ _ _ _ _ (by simp [hl]) (fun j p hj => ?_) ?_ p3
    · simp only [List.map_map, List.getElem?_map, Option.map_eq_some_iff] at hj
      obtain ⟨q, hj, rfl⟩ := hj
      obtain ⟨p, e1, e2, e3⟩ := hq j q hj
      exact ⟨(p.1, act.eval p.2), by simp [e1], by simp [e2], ev_sound R A e3⟩
    · refine ⟨by rw [flat_length _ _ (fun x hx => (hrep x hx).2)]; simp, fun j u hu => ?_⟩
      have hj := (List.getElem?_eq_some_iff.1 hu).1
      rw [flat_length _ _ (fun x hx => (hrep x hx).2), List.length_replicate] at hj
      have h0 : len * i.size ≠ 0 := by omega
      have hp : 0 < i.size := by
        rcases Nat.eq_zero_or_pos i.size with e0 | e0
        · rw [e0] at hj; omega
        · exact e0
      rw [g2 h0]
      rw [flat_replicate z len j (by rw [h1]; exact hj), h1] at hu
      have hzs : zv.cells.size = i.size := by rw [zc, h1]
      refine ⟨zv.cells[j % zv.cells.size]!, by simp [hj], ?_⟩
      have hlt : j % i.size < zv.cells.size := by rw [hzs]; exact Nat.mod_lt _ hp
      have e0 : zv.cells[j % zv.cells.size]! = zv.cells.getD (j % i.size) Go.undef := by
        rw [hzs, getElem!_pos zv.cells _ hlt]
        simp [Array.getD, hlt]
      rw [e0]
      exact zv' _ _ hu
  have run : ∃ cells, (execOp act.eval o).run P w = .ok (.value (.slice (some ⟨w.heap.size, 0, none⟩) len len)) (w.alloc (.cells cells e)) ∧ CellsOk ρ w (xs.flatMap V.cells) cells := by
    by_cases h0 : len * i.size = 0
    · obtain ⟨cells, e1, e2⟩ := main #[] (fun _ => rfl) (fun h => absurd h0 h)
      refine ⟨cells, ?_, e2⟩
      have e1' : Instr.fill (fun j => some (j * i.size, i.size)) (Array.map (fun x => (#[] : Array Value)[x % 0]!) #[]) (List.map (fun p => (p.fst, act.eval p.snd)) parts.toList) = some cells := by
        rw [h0] at e1
        simpa [show Array.range 0 = #[] from rfl] using e1
      simp at e1'
      simp [execOp, ho, Instr.buildSlice, run_underlying ht, run_sizeOf hi, h0, e1', newRow, show Array.range 0 = #[] from rfl]
    · obtain ⟨cells, e1, e2⟩ := main zv.cells (fun h => absurd h h0) (fun _ => rfl)
      refine ⟨cells, ?_, e2⟩
      have hn : ¬ 16777216 < len * i.size := by omega
      simp [execOp, ho, Instr.buildSlice, run_underlying ht, run_sizeOf hi, h0, hn, run_zeroValue hi hzv, e1, newRow]
  obtain ⟨cells, r1, r2⟩ := run
  obtain ⟨ρ', st, R', q⟩ := R.alloc e i.size xs cells (w.alloc (.cells cells e)) rfl p1 r2.2 rfl rfl rfl
  refine ⟨_, _, _, ρ', r1, rfl, st, R', ?_⟩
  have hxl : xs.length = len := by rw [p2]; simp
  have := RV.slc (ρ := ρ') (w := w.alloc (.cells cells e)) h.next 0 len len w.heap.size i.size _ len q (Nat.le_refl _) (Nat.le_refl _) (by rw [r2.1, flat_length _ _ (fun x hx => (p1 x hx).2), hxl]; simp)
  simpa using this

end Go.Am

/- The abstract machine, 15: a row's elements written at once; clear; nil slices. -/
namespace Go.Am
variable {P : Program} {G : Nat → V} {ρ : Ren} {h : Heap} {w : World} {N : Nat} {a : Tm} {act : Act}

theorem Rel.writeRow (R : Rel G ρ h w) {o ty sz : Nat} {xs ys : List V} (e : h.obj o = some (.arr ty sz xs)) {r s nb : Nat} (hρ : ρ.obj o = some (r, s, nb)) {us : List Value} (off : Nat) (hl : off + ys.length ≤ xs.length)
    (hys : ∀ u ∈ ys, u.sane = true ∧ u.cells.length = sz) (hlu : us.length = ys.length * sz) (hvu : ∀ (j : Nat) (u : V), (ys.flatMap V.cells)[j]? = some u → ∃ q : Value, us[j]? = some q ∧ RV ρ w u q) :
    s = sz ∧ Step ρ w ρ (w.setCells r (off * s) us) ∧ Rel G ρ (h.set o (.arr ty sz (xs.take off ++ ys ++ xs.drop (off + ys.length)))) (w.setCells r (off * s) us) ∧
      (∀ j, j < us.length → (w.cell? ⟨r, off * s + j, none⟩).isSome = true) ∧ ∀ j, w.frozen? ⟨r, j, none⟩ = false := by
  obtain ⟨r', nb', h1, hnF, hss, cells, hc, hnb, hv⟩ := R.arr o ty sz xs e
  rw [hρ] at h1
  injection h1 with h1
  injection h1 with h1 h2
  injection h2 with h2 h3
  subst h1 h2 h3
  have hx2 : ∀ u ∈ xs, u.cells.length = s := fun u hu => (hss u hu).2
  have hfx := flat_length xs s hx2
  have hfy := flat_length ys s (fun u hu => (hys u hu).2)
  have hnbx : xs.length * s ≤ nb := by
    rcases Nat.eq_zero_or_pos (xs.length * s) with e0 | e0
    · omega
    · have hlt : xs.length * s - 1 < (xs.flatMap V.cells).length := by rw [hfx]; omega
      obtain ⟨v, h1, _⟩ := hv _ _ (List.getElem?_eq_getElem hlt)
      have := (Array.getElem?_eq_some_iff.1 h1).1
      omega
  have hmul : (off + ys.length) * s = off * s + ys.length * s := Nat.add_mul ..
  have hmul3 : (off + ys.length) * s ≤ xs.length * s := Nat.mul_le_mul_right s hl
  obtain ⟨c', q1, q2, q3⟩ := setCells_heap r us (off * s) w cells ty (0, 0) hc (by omega)
  obtain ⟨pz1, pz2, pz3, pz4⟩ := setCells_rest r us (off * s) w
  have hzs2 : ∀ u ∈ xs.take off ++ ys ++ xs.drop (off + ys.length), u.sane = true ∧ u.cells.length = s := fun u hu => by
    rw [List.mem_append, List.mem_append] at hu
    rcases hu with (hu | hu) | hu
    · exact hss u (List.mem_of_mem_take hu)
    · exact hys u hu
    · exact hss u (List.mem_of_mem_drop hu)
  obtain ⟨st, R'⟩ := R.setArr o ty s xs (xs.take off ++ ys ++ xs.drop (off + ys.length)) r nb c' _ e hρ (by omega) q1 (fun k hk => setCells_other r us _ w k hk) pz1 hzs2 (fun j u hu => by
    rw [flat_append, flat_append, flat_take xs s hx2, flat_drop xs s hx2] at hu
    have tl : ((xs.flatMap V.cells).take (off * s)).length = off * s := by rw [List.length_take, hfx]; omega
    rw [q3 j, hlu]
    by_cases hj1 : j < off * s
    · rw [if_neg (by omega)]
      rw [List.getElem?_append_left (by rw [List.length_append, tl, hfy]; omega), List.getElem?_append_left (by omega), List.getElem?_take, if_pos hj1] at hu
      exact hv j u hu
    · by_cases hj2 : j < off * s + ys.length * s
      · rw [if_pos (by omega)]
        rw [List.getElem?_append_left (by rw [List.length_append, tl, hfy]; omega), List.getElem?_append_right (by omega), tl] at hu
        exact hvu _ u hu
      · rw [if_neg (by omega)]
        rw [List.getElem?_append_right (by rw [List.length_append, tl, hfy]; omega), List.length_append, tl, hfy, List.getElem?_drop] at hu
        rw [hmul, show off * s + ys.length * s + (j - (off * s + ys.length * s)) = j from by omega] at hu
        exact hv j u hu) pz2 pz3 pz4
  refine ⟨rfl, st, R', fun j hj => ?_, fun j => by simp [World.frozen?, hc]⟩
  rw [cell_at hc, Array.getElem?_eq_getElem (by omega)]
  rfl

theorem sound_clear (R : Rel G ρ h w) {t e : TypeId} {z : V} {x : Operand} {c : Call} {b v : V} {h' : Heap} {o : Oper} (ho : o.op = .call c) (hc : c.callee = .builtin .clear) (hargs : c.args.toList = [x]) (hat : c.argTypes[0]? = some t)
    (ht : P.underlying t = some (.slice e)) (hz : zeroT P e = some z) (hx : RV ρ w b (act.eval x)) (hs : stepI G a h (.clear z (.c b)) = some (v, h')) : Snd P G ρ w act o v h' := by
  have hargs : c.args = #[x] := by rw [← Array.toList_inj, hargs]
  obtain ⟨i, zv, h1, h2, h3⟩ := zeroT_some hz
  obtain ⟨zr, zs⟩ := cV_sound (ρ := ρ) (w := w) h3
  obtain ⟨zc, zv'⟩ := zr.cells zs
  have tup : ∀ (ρ' : Ren) (w' : World), RV ρ' w' (.tup []) (.tuple #[]) := fun ρ' w' => .tup _ _ rfl (fun j w' hj => by simp at hj)
  have none_ : ∀ base c', act.eval x = .slice base 0 c' → Snd P G ρ w act o (.tup []) h := by
    intro base c' hu
    refine Snd.pure R ?_ (tup _ _)
    cases base <;> simp [execOp, ho, resolve, hc, hargs, invoke, builtin, Builtin.clear_, hat, hu, run_underlying ht]
  simp only [stepI, Opd.ev] at hs
  split at hs
  · injection hs with hs
    injection hs with hs1 hs2
    subst hs1 hs2
    generalize hu : act.eval x = u at hx
    cases hx with
    | nil base => exact none_ base 0 hu
  · injection hs with hs
    injection hs with hs1 hs2
    subst hs1 hs2
    generalize hu : act.eval x = u at hx
    cases hx with
    | lst _ _ base c' => exact none_ base c' hu
  · injection hs with hs
    injection hs with hs1 hs2
    subst hs1 hs2
    generalize hu : act.eval x = u at hx
    cases hx with
    | slc _ _ _ _ r s nb cc => exact none_ _ cc hu
  · rename_i o' off len room _
    split at hs
    · rename_i ty sz xs hob
      split at hs
      · rename_i hcond
        obtain ⟨k0, k1, k2⟩ := hcond
        injection hs with hs
        injection hs with hs1 hs2
        subst hs1 hs2
        generalize hu : act.eval x = u at hx
        cases hx with
        | slc _ _ _ _ r s nb cc hρ hl hr hnn =>
          have hrep : ∀ u ∈ List.replicate len z, u.sane = true ∧ u.cells.length = sz := fun u hu => by rw [List.eq_of_mem_replicate hu]; exact ⟨zs, k2⟩
          have hzs : zv.cells.size = sz := by rw [zc, k2]
          obtain ⟨q1, q2, q3, q4, q5⟩ := R.writeRow (ys := List.replicate len z) hob hρ (us := (Builtin.zeroCells zv.cells len).toList) off (by simpa using k1) hrep (by simp [Builtin.zeroCells, hzs]) (fun j u hu => by
            have hj := (List.getElem?_eq_some_iff.1 hu).1
            rw [flat_length _ _ (fun x hx => (hrep x hx).2), List.length_replicate] at hj
            have hp : 0 < sz := by
              rcases Nat.eq_zero_or_pos sz with e0 | e0
              · rw [e0] at hj; omega
              · exact e0
            rw [flat_replicate z len j (by rw [k2]; exact hj), k2] at hu
            have hlt : j % sz < zv.cells.size := by rw [hzs]; exact Nat.mod_lt _ hp
            have e0 : zv.cells[j % zv.cells.size]! = zv.cells.getD (j % sz) Go.undef := by
              rw [hzs, getElem!_pos zv.cells _ hlt]
              simp [Array.getD, hlt]
            refine ⟨zv.cells[j % zv.cells.size]!, by simp [Builtin.zeroCells, hzs, hj], ?_⟩
            rw [e0]
            exact zv' _ _ hu)
          subst q1
          have hone : ∀ v ∈ (Builtin.zeroCells zv.cells len).toList, v.oneCell' = true := fun v hv => by
            simp only [Builtin.zeroCells, Array.toList_map, List.mem_map, Array.toList_range, List.mem_range] at hv
            obtain ⟨j, hj, rfl⟩ := hv
            have hp : 0 < s := by
              rcases Nat.eq_zero_or_pos s with e0 | e0
              · rw [hzs, e0] at hj; omega
              · exact e0
            have hlt : j % s < zv.cells.size := by rw [hzs]; exact Nat.mod_lt _ hp
            have hlz : j % s < z.cells.length := by rw [k2]; exact Nat.mod_lt _ hp
            have r0 := zv' _ _ (List.getElem?_eq_getElem hlz)
            have e0 : zv.cells[j % zv.cells.size]! = zv.cells.getD (j % s) Go.undef := by
              rw [hzs, getElem!_pos zv.cells _ hlt]
              simp [Array.getD, hlt]
            rw [e0]
            exact r0.oneCell (V.cells_all zs _ (List.getElem_mem hlz))
          have hst := run_storeCells_cells (P := P) r (off * s) (Builtin.zeroCells zv.cells len).toList 0 w (fun j hj => q4 j hj) (fun j _ => q5 _) hone
          simp only [Nat.add_zero] at hst
          have hlen0 : len ≠ 0 := by omega
          obtain ⟨n, rfl⟩ : ∃ n, len = n + 1 := ⟨len - 1, by omega⟩
          refine ⟨.value (.tuple #[]), _, _, ρ, ?_, rfl, q2, by simpa using q3, tup _ _⟩
          simp [execOp, ho, resolve, hc, hargs, invoke, builtin, Builtin.clear_, hat, hu, run_underlying ht, run_zeroValue h1 h2, hst]
      · cases hs
    · cases hs
  · cases hs

theorem sound_isnil (R : Rel G ρ h w) {neg : Bool} {t ty e : TypeId} {x y : Operand} {b : V} {o : Oper} (ho : o.op = .binOp (if neg then .neq else .eql) t x y ty) (h1 : P.underlying t = some (.slice e)) (hy : act.eval y = .slice none 0 0)
    (hx : RV ρ w b (act.eval x)) (hb : (∃ xs, b = .lst xs) ∨ (∃ o off len room, b = .slc o off len room) ∨ b = .nil) :
    ∃ q, Snd P G ρ w act o (.bool (neg != q)) h ∧ (q = true → b = .nil ∨ b = .lst []) := by
  have key : ∀ base l c, act.eval x = .slice base l c → Snd P G ρ w act o (.bool (neg != base.isNone)) h := by
    intro base l c hu
    refine Snd.pure R ?_ (.bool _)
    have := run_equal_slice_nil (P := P) w t e base l c h1
    have e3 : binOp .eql t (.slice base l c) (.slice none 0 0) = (Op.equal t (.slice base l c) (.slice none 0 0) >>= fun b => Pure.pure (.bool b)) := rfl
    have e4 : binOp .neq t (.slice base l c) (.slice none 0 0) = (Op.equal t (.slice base l c) (.slice none 0 0) >>= fun b => Pure.pure (.bool (!b))) := rfl
    cases neg
    · simp [execOp, ho, hu, hy, e3, eqGuard, this]
    · simp [execOp, ho, hu, hy, e4, eqGuard, this]
  rcases hb with ⟨xs, rfl⟩ | ⟨o', off, len, room, rfl⟩ | rfl
  · generalize hu : act.eval x = u at hx
    cases hx with
    | lst _ s base c f hc hs ha hv =>
      refine ⟨base.isNone, key _ _ _ hu, fun hq => .inr ?_⟩
      cases xs with
      | nil => rfl
      | cons x xs =>
        obtain ⟨b, off, e1, _⟩ := ha (by simp)
        subst e1
        cases hq
  · generalize hu : act.eval x = u at hx
    cases hx with
    | slc _ _ _ _ r s nb cc => exact ⟨false, key _ _ _ hu, fun hq => by cases hq⟩
  · generalize hu : act.eval x = u at hx
    cases hx with
    | nil base => exact ⟨base.isNone, key _ _ _ hu, fun _ => .inl rfl⟩

end Go.Am

/- The abstract machine, 16: each compiled instruction does what its operation does. -/
namespace Go.Am
variable {P : Program} {G : Nat → V} {ρ : Ren} {h : Heap} {w : World} {N : Nat} {a : Tm} {act : Act}

theorem map2 {α β : Type} {f : α → β} {x : Option α} {i : β} (e : x.map f = some i) : ∃ y, x = some y ∧ i = f y := by
  rw [Option.map_eq_some_iff] at e
  obtain ⟨y, h1, h2⟩ := e
  exact ⟨y, h1, h2.symm⟩

theorem pair2 {α β : Type} {x y : α} {u v : β} (e : some (x, u) = some (y, v)) : x = y ∧ u = v := by
  injection e with e
  injection e with e1 e2
  exact ⟨e1, e2⟩

/-- Which guards of the compiled form need: the two-sided '==' as one. -/
theorem cEq_sound (R : Rel G ρ h w) (A : ActOk ρ w N a act) {neg : Bool} {t ty : TypeId} {x y : Operand} {o : Oper} {i : I} (ho : o.op = .binOp (if neg then .neq else .eql) t x y ty) (e : cEq P neg t x y = some i) {v : V} {h' : Heap}
    (hs : stepI G a h i = some (v, h')) : Snd P G ρ w act o v h' := by
  unfold cEq at e
  split at e
  · rename_i k a' b' e1 e2 e3
    injection e with e
    subst e
    simp only [stepI] at hs
    obtain ⟨u, h1, h2⟩ := map2 hs
    obtain ⟨rfl, rfl⟩ := pair2 (congrArg some h2)
    have ho' : o.op = .binOp (if neg then BinOp.neq else .eql) t x y ty := ho
    exact sound_bin R ho' (ev_sound R A e2) (ev_sound R A e3) h1
  · rename_i a' b' e1 e2 e3
    injection e with e
    subst e
    simp only [stepI] at hs
    obtain ⟨u, h1, h2⟩ := map2 hs
    obtain ⟨rfl, rfl⟩ := pair2 (congrArg some h2)
    exact sound_bin R ho (ev_sound R A e2) (ev_sound R A e3) h1
  · rename_i a' b' e1 e2 e3
    injection e with e
    subst e
    simp only [stepI] at hs
    obtain ⟨u, h1, h2⟩ := map2 hs
    obtain ⟨rfl, rfl⟩ := pair2 (congrArg some h2)
    exact sound_eq R ho (fun n => by intro q; cases q) e1 (ev_sound R A e2) (ev_sound R A e3) h1
  · rename_i el a' b' e1 e2 e3
    injection e with e
    subst e
    simp only [stepI] at hs
    obtain ⟨u, h1, h2⟩ := map2 hs
    obtain ⟨rfl, rfl⟩ := pair2 (congrArg some h2)
    exact sound_eq R ho (fun n => by intro q; cases q) (show ∃ e, P.underlying t = some (.pointer e) from ⟨_, e1⟩) (ev_sound R A e2) (ev_sound R A e3) h1
  · rename_i k el a' b' e1 e2 e3
    injection e with e
    subst e
    simp only [stepI] at hs
    obtain ⟨u, h1, h2⟩ := map2 hs
    obtain ⟨rfl, rfl⟩ := pair2 (congrArg some h2)
    exact sound_eq R ho (fun n => by intro q; cases q) (show ∃ a e, P.underlying t = some (.map a e) from ⟨_, _, e1⟩) (ev_sound R A e2) (ev_sound R A e3) h1
  · rename_i k el u0 a' b' e1 e2 e3
    injection e with e
    subst e
    simp only [stepI] at hs
    obtain ⟨u, h1, h2⟩ := map2 hs
    obtain ⟨rfl, rfl⟩ := pair2 (congrArg some h2)
    exact sound_eq R ho (fun n => by intro q; cases q) (show ∃ a b c, P.underlying t = some (.func a b c) from ⟨_, _, _, e1⟩) (ev_sound R A e2) (ev_sound R A e3) h1
  · injection e with e
    subst e
    simp [stepI] at hs
  · rename_i n el a' b' e1 e2 e3
    split at e
    · rename_i hi
      injection e with e
      subst e
      simp only [stepI] at hs
      obtain ⟨u, h1, h2⟩ := map2 hs
      obtain ⟨rfl, rfl⟩ := pair2 (congrArg some h2)
      exact sound_eqInts R ho e1 hi (ev_sound R A e2) (ev_sound R A e3) h1
    · cases e
  · cases e

theorem cBuiltin_sound (R : Rel G ρ h w) (A : ActOk ρ w N a act) {c : Call} {b : Builtin} {o : Oper} {i : I} (ho : o.op = .call c) (hc : c.callee = .builtin b) (e : cBuiltin P b c.args.toList c.argTypes = some i) {v : V} {h' : Heap}
    (hs : stepI G a h i = some (v, h')) : Snd P G ρ w act o v h' := by
  unfold cBuiltin at e
  split at e
  · -- len
    rename_i x e0
    split at e
    · rename_i y e1 e2
      injection e with e
      subst e
      obtain ⟨t, h1, h2⟩ := Option.bind_eq_some_iff.1 e1
      simp only [stepI] at hs
      obtain ⟨u, h3, h4⟩ := map2 hs
      obtain ⟨rfl, rfl⟩ := pair2 (congrArg some h4)
      exact sound_lenS R ho hc e0 h1 h2 (ev_sound R A e2) h3
    · rename_i el y e1 e2
      injection e with e
      subst e
      obtain ⟨t, h1, h2⟩ := Option.bind_eq_some_iff.1 e1
      simp only [stepI] at hs
      obtain ⟨u, h3, h4⟩ := map2 hs
      obtain ⟨rfl, rfl⟩ := pair2 (congrArg some h4)
      exact sound_len R ho hc e0 h1 h2 (ev_sound R A e2) h3
    · rename_i kt et y e1 e2
      injection e with e
      subst e
      obtain ⟨t, h1, h2⟩ := Option.bind_eq_some_iff.1 e1
      have hh : h' = h := by
        simp only [stepI] at hs
        split at hs
        · exact (pair2 hs).2.symm
        · split at hs
          · exact (pair2 hs).2.symm
          · cases hs
        · cases hs
      subst hh
      exact sound_lenM (a := a) R ho hc e0 h1 h2 (ev_sound R A e2) (by simpa only [stepI, Opd.ev] using hs)
    · rename_i n el e1
      injection e with e
      subst e
      obtain ⟨t, h1, h2⟩ := Option.bind_eq_some_iff.1 e1
      simp only [stepI] at hs
      obtain ⟨rfl, rfl⟩ := pair2 hs
      exact sound_lenN R ho hc e0 h1 (.inl ⟨_, h2⟩)
    · rename_i el e1
      split at e
      · rename_i n e3 e4
        injection e with e
        subst e
        obtain ⟨t, h1, h2⟩ := Option.bind_eq_some_iff.1 e1
        simp only [stepI] at hs
        obtain ⟨rfl, rfl⟩ := pair2 hs
        exact sound_lenN R ho hc e0 h1 (.inr ⟨_, _, h2, e4⟩)
      · cases e
    · cases e
  · -- append
    rename_i x y e0
    split at e
    · rename_i el p q e1 e2 e3
      split at e
      · rename_i ti z e4 e5
        split at e
        · rename_i hcond
          obtain ⟨k1, k2, k3, k4⟩ := hcond
          injection e with e
          subst e
          obtain ⟨t, h1, h2⟩ := Option.bind_eq_some_iff.1 e1
          have hat : c.argTypes = #[t, t] := by
            apply Array.ext
            · simp [k2]
            · intro j h3 h4
              rw [h1] at k1
              have h0 := (Array.getElem?_eq_some_iff.1 h1).2
              have h1' := (Array.getElem?_eq_some_iff.1 k1).2
              have hj : j = 0 ∨ j = 1 := by omega
              rcases hj with rfl | rfl
              · simpa using h0
              · simpa using h1'
          have hargs : c.args = #[x, y] := by rw [← Array.toList_inj, e0]
          simp only [stepI] at hs
          exact sound_append R ho hc hargs hat h2 e4 e5 k4 (ev_sound R A e2) (ev_sound R A e3) hs
        · cases e
      · cases e
    · cases e
  · -- delete
    rename_i x k e0
    split at e
    · rename_i kt et p q e1 e2 e3
      obtain ⟨kn, h1, rfl⟩ := map2 e
      obtain ⟨t, h2, h3⟩ := Option.bind_eq_some_iff.1 e1
      simp only [stepI] at hs
      split at hs
      · rename_i m hm
        split at hs
        · rename_i es cl hob
          split at hs
          · rename_i qq hq
            obtain ⟨rfl, rfl⟩ := pair2 hs
            exact sound_delete R ho hc e0 h2 h3 h1 (hm ▸ ev_sound R A e2) (ev_sound R A e3) hob hq
          · cases hs
        · cases hs
      · cases hs
    · cases e
  · -- clear
    rename_i x e0
    split at e
    · rename_i el p e1 e2
      obtain ⟨z, h1, rfl⟩ := map2 e
      obtain ⟨t, h2, h3⟩ := Option.bind_eq_some_iff.1 e1
      exact sound_clear (a := a) R ho hc e0 h2 h3 h1 (ev_sound R A e2) (by simpa only [stepI, Opd.ev] using hs)
    · cases e
  · -- min
    rename_i x y e0
    split at e
    · rename_i p q e1 e2
      injection e with e
      subst e
      simp only [stepI] at hs
      split at hs
      · rename_i k m k' n hm hn
        split at hs
        · rename_i hk
          subst hk
          obtain ⟨rfl, rfl⟩ := pair2 hs
          have hargs : c.args = #[x, y] := by rw [← Array.toList_inj, e0]
          exact sound_minmax (mx := false) R ho hc hargs (hm ▸ ev_sound R A e1) (hn ▸ ev_sound R A e2)
        · cases hs
      · cases hs
    · cases e
  · -- max
    rename_i x y e0
    split at e
    · rename_i p q e1 e2
      injection e with e
      subst e
      simp only [stepI] at hs
      split at hs
      · rename_i k m k' n hm hn
        split at hs
        · rename_i hk
          subst hk
          obtain ⟨rfl, rfl⟩ := pair2 hs
          have hargs : c.args = #[x, y] := by rw [← Array.toList_inj, e0]
          exact sound_minmax (mx := true) R ho hc hargs (hm ▸ ev_sound R A e1) (hn ▸ ev_sound R A e2)
        · cases hs
      · cases hs
    · cases e
  · cases e

theorem heap_eq {α : Type} {x : Option α} {f : α → V} {v : V} {h h' : Heap} (hs : x.map (fun y => (f y, h)) = some (v, h')) : ∃ y, x = some y ∧ v = f y ∧ h' = h := by
  obtain ⟨y, h1, h2⟩ := map2 hs
  obtain ⟨rfl, rfl⟩ := pair2 (congrArg some h2)
  exact ⟨y, h1, rfl, rfl⟩

theorem sound_lookups (R : Rel G ρ h w) (A : ActOk ρ w N a act) {o : Oper} {t : TypeId} {x k : Operand} {ok : Bool} {i : I} (ho : o.op = .lookup t x k ok) (e : cOp P (.lookup t x k ok) = some i) {v : V} {h' : Heap} (hs : stepI G a h i = some (v, h')) : Snd P G ρ w act o v h' := by
  simp only [cOp] at e
  split at e
  · rename_i kt et y q e1 e2 e3
    split at e
    · rename_i kn z e4 e5
      injection e with e
      subst e
      simp only [stepI] at hs
      obtain ⟨r, h1, rfl, rfl⟩ := heap_eq hs
      exact sound_lookup R ho e1 e4 e5 (ev_sound R A e2) (ev_sound R A e3) h1 rfl
    · cases e
  · cases e

theorem sound_mapUpdates (R : Rel G ρ h w) (A : ActOk ρ w N a act) {o : Oper} {t : TypeId} {x k y : Operand} {i : I} (ho : o.op = .mapUpdate t x k y) (e : cOp P (.mapUpdate t x k y) = some i) {v : V} {h' : Heap} (hs : stepI G a h i = some (v, h')) : Snd P G ρ w act o v h' := by
  simp only [cOp] at e
  split at e
  · rename_i kt et p q z e1 e2 e3 e4
    obtain ⟨kn, e5, rfl⟩ := map2 e
    simp only [stepI] at hs
    split at hs
    · rename_i m hm
      split at hs
      · rename_i es cl hob
        split at hs
        · rename_i r hq
          obtain ⟨rfl, rfl⟩ := pair2 hs
          exact sound_mupd R ho e1 e5 (hm ▸ ev_sound R A e2) (ev_sound R A e3) (ev_sound R A e4) hob hq
        · cases hs
      · cases hs
    · cases hs
  · cases e

theorem sound_mapEntrys (R : Rel G ρ h w) (A : ActOk ρ w N a act) {o : Oper} {t : TypeId} {x k : Operand} {i : I} (ho : o.op = .mapEntry t x k) (e : cOp P (.mapEntry t x k) = some i) {v : V} {h' : Heap} (hs : stepI G a h i = some (v, h')) : Snd P G ρ w act o v h' := by
  simp only [cOp] at e
  split at e
  · rename_i kt et p q e1 e2 e3
    split at e
    · rename_i kn z e4 e5
      injection e with e
      subst e
      simp only [stepI] at hs
      split at hs
      · rename_i m hm
        split at hs
        · rename_i es cl hob
          split at hs
          · rename_i r hq
            obtain ⟨rfl, rfl⟩ := pair2 hs
            exact sound_mentry R ho e1 e4 e5 (hm ▸ ev_sound R A e2) (ev_sound R A e3) hob hq
          · cases hs
        · cases hs
      · cases hs
    · cases e
  · cases e

theorem sound_entryStores (R : Rel G ρ h w) (A : ActOk ρ w N a act) {o : Oper} {t : TypeId} {x k y : Operand} {i : I} (ho : o.op = .entryStore t x k y) (e : cOp P (.entryStore t x k y) = some i) {v : V} {h' : Heap} (hs : stepI G a h i = some (v, h')) : Snd P G ρ w act o v h' := by
  simp only [cOp] at e
  split at e
  · rename_i p q z e2 e3 e4
    injection e with e
    subst e
    simp only [stepI] at hs
    split at hs
    · rename_i m n hm hn
      split at hs
      · rename_i es cl hob
        split at hs
        · rename_i h0
          obtain ⟨es', hp, h2⟩ := map2 hs
          obtain ⟨rfl, rfl⟩ := pair2 (congrArg some h2)
          have hk := ev_sound R A e3
          rw [hn] at hk
          have hn' : ((n.toNat : Nat) : Int) = n := by omega
          rw [← hn'] at hk
          exact sound_estore R ho (hm ▸ ev_sound R A e2) hk (ev_sound R A e4) hob hp
        · cases hs
      · cases hs
    · cases hs
  · cases e

theorem sound_builds (R : Rel G ρ h w) (A : ActOk ρ w N a act) {o : Oper} {t : TypeId} {parts : Array (Nat × Operand)} {i : I} (ho : o.op = .build t parts) (e : cOp P (.build t parts) = some i) {v : V} {h' : Heap} (hs : stepI G a h i = some (v, h')) : Snd P G ρ w act o v h' := by
  simp only [cOp] at e
  split at e
  · rename_i fs z e1 e2
    split at e
    · rename_i places e3
      obtain ⟨qs, e4, rfl⟩ := map2 e
      simp only [stepI] at hs
      obtain ⟨cs, h1, rfl, rfl⟩ := heap_eq hs
      exact sound_build R A ho e2 (.inl ⟨_, _, e1, e3, e4⟩) h1
    · cases e
  · rename_i n el z e1 e2
    split at e
    · rename_i k e3
      obtain ⟨qs, e4, rfl⟩ := map2 e
      simp only [stepI] at hs
      obtain ⟨cs, h1, rfl, rfl⟩ := heap_eq hs
      exact sound_build R A ho e2 (.inr ⟨_, _, _, e1, e3, e4⟩) h1
    · cases e
  · cases e

/-- An empty row's literal: no object. -/
theorem sound_bslice0 (R : Rel G ρ h w) {t e : TypeId} {i : TypeInfo} {o : Oper} (ho : o.op = .buildSlice t 0 #[]) (ht : P.underlying t = some (.slice e)) (hi : P.info? e = some i) : Snd P G ρ w act o .nil h := by
  have run : (execOp act.eval o).run P w = .ok (.value (.slice (some ⟨w.heap.size, 0, none⟩) 0 0)) (w.alloc (.cells #[] e)) := by
    simp [execOp, ho, Instr.buildSlice, run_underlying ht, run_sizeOf hi, newRow, Instr.fill, show Array.range 0 = #[] from rfl]
  have keep : ∀ r, r < w.heap.size → (w.alloc (.cells #[] e)).heap[r]? = w.heap[r]? := fun r hr => by
    show (w.heap.push _)[r]? = _
    rw [Array.getElem?_push, if_neg (by omega)]
  have l : Le ρ w ρ (w.alloc (.cells #[] e)) := ⟨fun _ _ h => h, fun _ _ h => h, fun _ h => h, fun b hb => keep b (R.flt b hb)⟩
  refine ⟨_, _, _, ρ, run, rfl, ⟨l, by show w.heap.size ≤ (w.heap.push _).size; simp, rfl, rfl, rfl⟩, ⟨fun o ty sz xs ho => ?_, fun m es cl hm => ?_, R.injA, R.injM, R.dom, fun g => (R.glo g).mono l, fun r hr => Nat.lt_of_lt_of_le (R.flt r hr) (by show w.heap.size ≤ (w.heap.push _).size; simp)⟩, .nil _⟩
  · obtain ⟨r, nb, h1, h2, h3⟩ := R.arr o ty sz xs ho
    have hlt : r < w.heap.size := by obtain ⟨_, c, hc, _⟩ := h3; exact heap_lt hc
    exact ⟨r, nb, h1, h2, h3.mono l (keep r hlt)⟩
  · obtain ⟨r, ents, h1, h2, h3, h4⟩ := R.map m es cl hm
    exact ⟨r, ents, h1, h2, (keep r (heap_lt h3)).trans h3, h4.mono l⟩

theorem sound_bslices (R : Rel G ρ h w) (A : ActOk ρ w N a act) {o : Oper} {t : TypeId} {len : Nat} {parts : Array (Nat × Operand)} {i : I} (ho : o.op = .buildSlice t len parts) (e : cOp P (.buildSlice t len parts) = some i) {v : V} {h' : Heap} (hs : stepI G a h i = some (v, h')) : Snd P G ρ w act o v h' := by
  simp only [cOp] at e
  split at e
  · rename_i el e1
    split at e
    · rename_i h0
      obtain ⟨rfl, rfl⟩ := h0
      obtain ⟨n, e2, rfl⟩ := map2 e
      obtain ⟨i, hi, _⟩ := szT_some e2
      simp only [stepI, Opd.ev] at hs
      obtain ⟨rfl, rfl⟩ := pair2 hs
      exact sound_bslice0 R ho e1 hi
    split at e
    · rename_i n z e2 e3
      obtain ⟨qs, e4, rfl⟩ := map2 e
      simp only [stepI] at hs
      split at hs
      · rename_i hc
        obtain ⟨k1, k2, k3⟩ := hc
        obtain ⟨xs, h1, h2⟩ := map2 hs
        obtain ⟨rfl, rfl⟩ := pair2 (congrArg some h2)
        exact sound_bslice R A ho e1 e3 e2 e4 k1 k2 k3 h1
      · cases hs
    · cases e
  · cases e

end Go.Am

/- The abstract machine, 17: each compiled instruction does what its operation does. -/
namespace Go.Am
variable {P : Program} {G : Nat → V} {ρ : Ren} {h : Heap} {w : World} {N : Nat} {a : Tm} {act : Act}

theorem bd_sound (R : Rel G ρ h w) (A : ActOk ρ w N a act) {x : Option Operand} {y : Option Opd} (e : cOpdO x = some y) : Bd ρ w (y.map (·.ev G a)) (x.map act.eval) ∧ y.isSome = x.isSome := by
  cases x with
  | none => simp [cOpdO] at e; subst e; exact ⟨trivial, rfl⟩
  | some x =>
    obtain ⟨z, h1, rfl⟩ := map2 (show (cOpd x).map some = some y from e)
    exact ⟨ev_sound R A h1, rfl⟩

theorem op_sound1 (R : Rel G ρ h w) (A : ActOk ρ w N a act) {o : Oper} {i : I} (e : cOp P o.op = some i) {v : V} {h' : Heap} (hs : stepI G a h i = some (v, h')) : Snd P G ρ w act o v h' := by
  cases ho : o.op with
  | move x =>
    rw [ho] at e; simp only [cOp] at e
    obtain ⟨y, e1, rfl⟩ := map2 e
    simp only [stepI] at hs
    obtain ⟨rfl, rfl⟩ := pair2 hs
    exact sound_mov R (.inl ho) (ev_sound R A e1)
  | assign x =>
    rw [ho] at e; simp only [cOp] at e
    obtain ⟨y, e1, rfl⟩ := map2 e
    simp only [stepI] at hs
    obtain ⟨rfl, rfl⟩ := pair2 hs
    exact sound_mov R (.inr ho) (ev_sound R A e1)
  | pick c x y =>
    rw [ho] at e; simp only [cOp] at e
    split at e
    · rename_i p q r e1 e2 e3
      injection e with e
      subst e
      simp only [stepI] at hs
      split at hs
      · rename_i hc
        obtain ⟨rfl, rfl⟩ := pair2 hs
        exact sound_pick (e := true) R ho (hc ▸ ev_sound R A e1) (ev_sound R A e2) (ev_sound R A e3)
      · rename_i hc
        obtain ⟨rfl, rfl⟩ := pair2 hs
        exact sound_pick (e := false) R ho (hc ▸ ev_sound R A e1) (ev_sound R A e2) (ev_sound R A e3)
      · cases hs
    · cases e
  | alloc t =>
    rw [ho] at e; simp only [cOp] at e
    split at e
    · rename_i n z e1 e2
      injection e with e
      subst e
      simp only [stepI] at hs
      have hs : (if z.cells.length = n ∧ z.sane = true then some (V.ptr h.next 0 0, h.alloc (.arr t n [z])) else none) = some (v, h') := hs
      by_cases hc : z.cells.length = n ∧ z.sane = true
      · rw [if_pos hc] at hs
        obtain ⟨rfl, rfl⟩ := pair2 hs
        exact sound_alloc R ho e2 hc.1
      · rw [if_neg hc] at hs
        cases hs
    · cases e
  | box t x =>
    rw [ho] at e; simp only [cOp] at e
    split at e
    · rename_i n y e1 e2
      injection e with e
      subst e
      simp only [stepI] at hs
      split at hs
      · rename_i hc
        obtain ⟨rfl, rfl⟩ := pair2 hs
        exact sound_box R ho (ev_sound R A e2) hc.1 hc.2
      · cases hs
    · cases e
  | build t parts => rw [ho] at e; exact sound_builds R A ho e hs
  | buildSlice t len parts => rw [ho] at e; exact sound_bslices R A ho e hs
  | load t x =>
    rw [ho] at e; simp only [cOp] at e
    split at e
    · rename_i b n y e1 e2 e3
      injection e with e
      subst e
      simp only [stepI] at hs
      obtain ⟨u, h1, rfl, rfl⟩ := heap_eq hs
      exact sound_load R ho e1 e2 (ev_sound R A e3) h1
    · cases e
  | store t x y =>
    rw [ho] at e; simp only [cOp] at e
    split at e
    · rename_i n p q e1 e2 e3
      injection e with e
      subst e
      simp only [stepI] at hs
      obtain ⟨u, h1, h2⟩ := map2 hs
      obtain ⟨rfl, rfl⟩ := pair2 (congrArg some h2)
      exact sound_store R ho e1 (ev_sound R A e2) (ev_sound R A e3) h1
    · cases e
  | nilCheck x =>
    rw [ho] at e; simp only [cOp] at e
    obtain ⟨y, e1, rfl⟩ := map2 e
    have hh : h' = h := by
      simp only [stepI] at hs
      split at hs <;> first | exact (pair2 hs).2.symm | cases hs
    subst hh
    exact sound_nilck (a := a) R ho (ev_sound R A e1) (by simpa only [stepI, Opd.ev] using hs)
  | binOp op t x y ty =>
    rw [ho] at e
    by_cases h1 : op = .eql
    · subst h1
      simp only [cOp] at e
      exact cEq_sound (neg := false) R A ho e hs
    · by_cases h2 : op = .neq
      · subst h2
        simp only [cOp] at e
        exact cEq_sound (neg := true) R A ho e hs
      · have e' : (match cOpd x, cOpd y with | some a, some b => some (I.bin op a b) | _, _ => none) = some i := by
          cases op <;> first | exact absurd rfl h1 | exact absurd rfl h2 | exact e
        split at e'
        · rename_i p q e1 e2
          injection e' with e'
          subst e'
          simp only [stepI] at hs
          obtain ⟨u, h3, rfl, rfl⟩ := heap_eq hs
          exact sound_bin R ho (ev_sound R A e1) (ev_sound R A e2) h3
        · cases e'
  | unOp op t x =>
    rw [ho] at e; simp only [cOp] at e
    obtain ⟨y, e1, rfl⟩ := map2 e
    simp only [stepI] at hs
    obtain ⟨u, h3, rfl, rfl⟩ := heap_eq hs
    exact sound_un R ho (ev_sound R A e1) h3
  | convert src dst x =>
    rw [ho] at e; simp only [cOp] at e
    split at e
    · rename_i ks k y e1 e2 e3
      injection e with e
      subst e
      simp only [stepI] at hs
      split at hs
      · rename_i k' n hn
        obtain ⟨rfl, rfl⟩ := pair2 hs
        exact sound_conv R ho e1 e2 (hn ▸ ev_sound R A e3)
      · cases hs
    · rename_i es ed y e1 e2 e3
      split at e
      · rename_i e4
        split at e
        · rename_i hsd
          subst hsd
          injection e with e
          subst e
          simp only [stepI] at hs
          split at hs
          · rename_i o' off len room hb
            exact sound_still R ho e2 e4 (ev_sound R A e3) ⟨_, _, _, _, hb⟩ (hb ▸ hs)
          · cases hs
        · cases e
      · cases e
    · rename_i es y e1 e2 e3
      split at e
      · rename_i e4
        injection e with e
        subst e
        simp only [stepI] at hs
        obtain ⟨u, h3, rfl, rfl⟩ := heap_eq hs
        exact sound_b2s R ho e1 e2 e4 (ev_sound R A e3) h3
      · cases e
    · cases e
  | makeInterface t x =>
    rw [ho] at e; simp only [cOp] at e
    split at e
    · cases e
    · rename_i d y e1 e2 e3
      injection e with e
      subst e
      simp only [stepI] at hs
      obtain ⟨rfl, rfl⟩ := pair2 hs
      exact sound_iface R ho e2 (fun ms q => e1 ms q) (ev_sound R A e3)
    · cases e
  | makeFunc fn first captured =>
    rw [ho] at e
    cases fn <;> simp only [cOp] at e <;> try (cases e; done)
    rename_i f
    split at e
    · rename_i h0
      obtain ⟨ys, e1, rfl⟩ := map2 e
      simp only [stepI] at hs
      obtain ⟨rfl, rfl⟩ := pair2 hs
      exact sound_mkfn R A ho h0 e1
    · cases e
  | makeMap t r =>
    rw [ho] at e
    cases r <;> simp only [cOp] at e <;> try (cases e; done)
    injection e with e
    subst e
    simp only [stepI] at hs
    obtain ⟨rfl, rfl⟩ := pair2 hs
    exact sound_mkmap R ho
  | makeSlice t l c =>
    rw [ho] at e; simp only [cOp] at e
    split at e
    · rename_i el e1
      split at e
      · rename_i ti z p q e2 e3 e4 e5
        injection e with e
        subst e
        exact sound_mkslice (a := a) R ho e1 e2 e3 (ev_sound R A e4) (ev_sound R A e5) (by simpa only [stepI, Opd.ev] using hs)
      · cases e
    · cases e
  | sliceToArrayPointer t x =>
    rw [ho] at e; simp only [cOp] at e
    split at e
    · rename_i n el y e1 e2
      split at e
      · injection e with e
        subst e
        have hh : h' = h := by
          simp only [stepI] at hs
          split at hs
          · split at hs
            · exact (pair2 hs).2.symm
            · cases hs
          · cases hs
        subst hh
        exact sound_s2ap (a := a) R ho e1 (ev_sound R A e2) (by simpa only [stepI, Opd.ev] using hs)
      · cases e
    · cases e
  | panic x =>
    rw [ho] at e; simp only [cOp] at e
    injection e with e
    subst e
    simp [stepI] at hs
  | slice t x lo hi mx =>
    rw [ho] at e; simp only [cOp] at e
    split at e
    · rename_i el y l2 h2 m2 e1 e2 e3 e4 e5
      split at e
      · cases e
      · rename_i hc
        obtain ⟨n, e6, rfl⟩ := map2 e
        simp only [stepI] at hs
        obtain ⟨u, h3, rfl, rfl⟩ := heap_eq hs
        exact sound_slice R ho e1 e6 (fun hm => by cases hi <;> simp_all) (ev_sound R A e2) (bd_sound R A e3).1 (bd_sound R A e4).1 (bd_sound R A e5).1 h3
    · cases e
  | fieldAddr s x f =>
    rw [ho] at e; simp only [cOp] at e
    split at e
    · rename_i fs y e1 e2
      split at e
      · rename_i fd e3
        split at e
        · rename_i n e4
          injection e with e
          subst e
          have hh : h' = h := by
            simp only [stepI] at hs
            split at hs <;> first | exact (pair2 hs).2.symm | cases hs
          subst hh
          exact sound_faddr (a := a) R ho e1 e3 e4 (ev_sound R A e2) (by simpa only [stepI, Opd.ev] using hs)
        · cases e
      · cases e
    · cases e
  | field t x f =>
    rw [ho] at e; simp only [cOp] at e
    split at e
    · rename_i fs y e1 e2
      split at e
      · rename_i fd e3
        split at e
        · rename_i b n e4 e5
          injection e with e
          subst e
          have hh : h' = h := by
            simp only [stepI] at hs
            split at hs
            · split at hs
              · split at hs
                · exact (pair2 hs).2.symm
                · cases hs
              · obtain ⟨_, _, _, q⟩ := heap_eq hs
                exact q
            · cases hs
          subst hh
          exact sound_fld (a := a) R ho e1 e3 e4 e5 (ev_sound R A e2) (by simpa only [stepI, Opd.ev] using hs)
        · cases e
      · cases e
    · cases e
  | indexAddr t x j =>
    rw [ho] at e; simp only [cOp] at e
    split at e
    · rename_i el y q e1 e2 e3
      obtain ⟨n, e4, rfl⟩ := map2 e
      have hh : h' = h := by
        simp only [stepI] at hs
        split at hs
        · split at hs
          · split at hs
            · exact (pair2 hs).2.symm
            · cases hs
          · cases hs
        · split at hs
          · split at hs
            · exact (pair2 hs).2.symm
            · cases hs
          · cases hs
        · cases hs
      subst hh
      exact sound_iaddr (a := a) R ho e1 e4 (ev_sound R A e2) (ev_sound R A e3) (by simpa only [stepI, Opd.ev] using hs)
    · rename_i len el y q e1 e2 e3
      obtain ⟨n, e4, rfl⟩ := map2 e
      have hh : h' = h := by
        simp only [stepI] at hs
        split at hs
        · split at hs
          · exact (pair2 hs).2.symm
          · cases hs
        · split at hs
          · exact (pair2 hs).2.symm
          · cases hs
        · cases hs
      subst hh
      exact sound_iaddrA (a := a) R ho e1 e4 (ev_sound R A e2) (ev_sound R A e3) (by simpa only [stepI, Opd.ev] using hs)
    · cases e
  | index t x j =>
    rw [ho] at e; simp only [cOp] at e
    split at e
    · rename_i len el y q e1 e2 e3
      split at e
      · rename_i b n e4 e5
        injection e with e
        subst e
        have hh : h' = h := by
          simp only [stepI] at hs
          split at hs
          · split at hs
            · split at hs
              · split at hs
                · exact (pair2 hs).2.symm
                · cases hs
              · obtain ⟨_, _, _, q⟩ := heap_eq hs
                exact q
            · cases hs
          · cases hs
        subst hh
        exact sound_idxA (a := a) R ho e1 e5 e4 (ev_sound R A e2) (ev_sound R A e3) (by simpa only [stepI, Opd.ev] using hs)
      · cases e
    · rename_i y q e1 e2 e3
      injection e with e
      subst e
      have hh : h' = h := by
        simp only [stepI] at hs
        split at hs
        · split at hs
          · exact (pair2 hs).2.symm
          · cases hs
        · cases hs
      subst hh
      exact sound_idxS (a := a) R ho e1 (ev_sound R A e2) (ev_sound R A e3) (by simpa only [stepI, Opd.ev] using hs)
    · cases e
  | lookup t x k ok => rw [ho] at e; exact sound_lookups R A ho e hs
  | mapUpdate t m k y => rw [ho] at e; exact sound_mapUpdates R A ho e hs
  | mapEntry t m k => rw [ho] at e; exact sound_mapEntrys R A ho e hs
  | entryStore t m s y => rw [ho] at e; exact sound_entryStores R A ho e hs
  | extract x j =>
    rw [ho] at e; simp only [cOp] at e
    obtain ⟨y, e1, rfl⟩ := map2 e
    simp only [stepI] at hs
    split at hs
    · rename_i vs hv
      obtain ⟨u, h3, rfl, rfl⟩ := heap_eq hs
      exact sound_extract R ho (hv ▸ ev_sound R A e1) h3
    · cases hs
  | call c =>
    rw [ho] at e; simp only [cOp, cCall] at e
    split at e
    · split at e
      · split at e
        · injection e with e
          subst e
          simp [stepI] at hs
        · cases e
      · cases e
    · obtain ⟨y, e1, rfl⟩ := map2 e
      simp [stepI] at hs
    · exact cBuiltin_sound R A ho (by assumption) e hs
    · cases e
  | _ => rw [ho] at e; simp [cOp] at e

end Go.Am
