/- Parts of the proof, one after another; what each part shows stands at its head. No conditions. -/
import Derived.Test.YtonbafpfcmlnlaaDoorL9
import Derived.Test.YtonbafpfcmlnlaaDoorRows
import Derived.ProofKit
import Derived.OpenShut
import Derived.Deep.Slices
import Derived.LaidLaws
import Derived.Handed
import Derived.Test.YtonbafpfcmlnlaaDoorCards
import Derived.Test.YtonbafpfcmlnlaaDoorTie
import Derived.SevenTiedAt
set_option linter.all false

/- Frames are read as they were put. -/
namespace Go.Am
open Go.Proofs
set_option maxRecDepth 100000

theorem and64unat (a b : Nat) (ha : a < 2 ^ 64) (hb : b < 2 ^ 64) : and64 (a : Int) (b : Int) = ((a &&& b : Nat) : Int) := by
  unfold and64
  rw [BitVec.toNat_and, BitVec.ofInt_natCast, BitVec.ofInt_natCast, BitVec.toNat_ofNat, BitVec.toNat_ofNat, Nat.mod_eq_of_lt ha, Nat.mod_eq_of_lt hb, u64uwrap]
  have : a &&& b < 2 ^ 64 := Nat.lt_of_le_of_lt Nat.and_le_left ha
  omega
theorem or64unat (a b : Nat) (ha : a < 2 ^ 64) (hb : b < 2 ^ 64) : or64 (a : Int) (b : Int) = ((a ||| b : Nat) : Int) := by
  unfold or64
  rw [BitVec.toNat_or, BitVec.ofInt_natCast, BitVec.ofInt_natCast, BitVec.toNat_ofNat, BitVec.toNat_ofNat, Nat.mod_eq_of_lt ha, Nat.mod_eq_of_lt hb, u64uwrap]
  have : a ||| b < 2 ^ 64 := Nat.or_lt_two_pow ha hb
  omega

/-- One byte more. -/
theorem next_nat (x : Nat) (c : UInt8) (hx : x < 2 ^ 55) : nextF (x : Int) c = ((x * 256 + c.toNat : Nat) : Int) := by
  unfold nextF
  have hc := c.toNat_lt
  have e : (2 : Int) ^ min 8 64 = 256 := by decide
  rw [e, u64uwrap, u64uwrap]
  have e1 : ((x : Int) * 256) % 18446744073709551616 = ((x * 256 : Nat) : Int) := by omega
  have e2 : (c.toNat : Int) % 18446744073709551616 = (c.toNat : Int) := by omega
  rw [e1, e2, or64unat _ _ (by omega) (by omega)]
  congr 1
  have := Nat.two_pow_add_eq_or_of_lt (i := 8) (b := c.toNat) (by omega) x
  rw [Nat.mul_comm x 256]
  exact this.symm

theorem ofInt_nat (n : Nat) : (UInt8.ofInt (n : Int)).toNat = n % 256 := by
  unfold UInt8.ofInt
  simp only [UInt8.toNat_ofNat']
  omega

theorem fdiv_nat (x m : Nat) : Int.fdiv (x : Int) (m : Int) = ((x / m : Nat) : Int) := by
  rw [Int.fdiv_eq_ediv_of_nonneg _ (by omega)]
  rfl

/-- The bytes behind the first one. -/
theorem fold_tail (x : Nat) (hx : x < 2 ^ 55) : ∀ k, k ≤ 6 → (tailF (x : Int) k).foldl nextF ((x / 2 ^ (8 * k) : Nat) : Int) = (x : Int)
  | 0, _ => by simp [tailF]
  | k + 1, h => by
    have hm : min (8 * k) 64 = 8 * k := by omega
    simp only [tailF, List.foldl_cons, hm]
    have h1 : x / 2 ^ (8 * (k + 1)) < 2 ^ 55 := Nat.lt_of_le_of_lt (Nat.div_le_self _ _) hx
    rw [next_nat _ _ h1]
    have e : (2 : Int) ^ (8 * k) = ((2 ^ (8 * k) : Nat) : Int) := by simp
    rw [e, fdiv_nat, ofInt_nat]
    have h2 : x / 2 ^ (8 * (k + 1)) * 256 + x / 2 ^ (8 * k) % 256 = x / 2 ^ (8 * k) := by
      have : 2 ^ (8 * (k + 1)) = 2 ^ (8 * k) * 256 := by rw [Nat.mul_add, Nat.pow_add]
      rw [this, ← Nat.div_div_eq_div_mul]
      omega
    rw [h2]
    exact fold_tail x hx k (by omega)

theorem first_all : ∀ k : Fin 7, ∀ y : Fin 128, y.val < 2 ^ (7 - k.val) → lz8 (notF (UInt8.ofNat (256 - 2 ^ (8 - k.val) + y.val))) = k.val ∧ firstF (UInt8.ofNat (256 - 2 ^ (8 - k.val) + y.val)) = y.val := by decide +kernel

theorem lead_all : ∀ k : Fin 7, ∀ y : Fin 128, y.val < 2 ^ (7 - k.val) → UInt8.ofInt (IntKind.u8.wrap (BitVec.ofInt 8 (IntKind.u8.wrap (255 * 2 ^ min (8 - k.val) 8)) ||| BitVec.ofInt 8 (IntKind.u8.wrap (y.val : Int))).toNat) = UInt8.ofNat (256 - 2 ^ (8 - k.val) + y.val) := by decide +kernel

theorem moreF_small (x : Nat) (hx : x < 2 ^ 49) : moreF (x : Int) ≤ 6 ∧ x < 2 ^ (7 * (moreF (x : Int) + 1)) := by
  unfold moreF moreG
  split
  · rename_i h
    exact ⟨by omega, by simp at h; omega⟩
  · unfold moreG
    split
    · rename_i h
      exact ⟨by omega, by simp at h; omega⟩
    · unfold moreG
      split
      · rename_i h
        exact ⟨by omega, by simp at h; omega⟩
      · unfold moreG
        split
        · rename_i h
          exact ⟨by omega, by simp at h; omega⟩
        · unfold moreG
          split
          · rename_i h
            exact ⟨by omega, by simp at h; omega⟩
          · unfold moreG
            split
            · rename_i h
              exact ⟨by omega, by simp at h; omega⟩
            · unfold moreG
              split
              · rename_i h
                exact ⟨by omega, by simp at h; omega⟩
              · rename_i h
                simp at h
                omega

/-- A number is read as it was put. -/
theorem look_num (x : Nat) (hx : x < 2 ^ 49) (r : List UInt8) : lookF (numF (x : Int) ++ r) = ((x : Int), (numF (x : Int)).length, 0) := by
  have hm : max (x : Int) 0 = x := by omega
  obtain ⟨h6, hk⟩ := moreF_small x hx
  unfold numF
  rw [hm]
  unfold leadF
  generalize hkk : moreF (x : Int) = k at *
  have hm2 : min (8 * k) 64 = 8 * k := by omega
  have e : (2 : Int) ^ (8 * k) = ((2 ^ (8 * k) : Nat) : Int) := by simp
  have k8 : k < 8 := by omega
  have hy : x / 2 ^ (8 * k) < 2 ^ (7 - k) := by
    rw [Nat.div_lt_iff_lt_mul (Nat.two_pow_pos _), ← Nat.pow_add]
    rw [show 7 - k + 8 * k = 7 * (k + 1) from by omega]
    exact hk
  have hy128 : x / 2 ^ (8 * k) < 128 := Nat.lt_of_lt_of_le hy (by
    have : 2 ^ (7 - k) ≤ 2 ^ 7 := Nat.pow_le_pow_right (by omega) (by omega)
    omega)
  have L := lead_all ⟨k, by omega⟩ ⟨x / 2 ^ (8 * k), hy128⟩ hy
  have F := first_all ⟨k, by omega⟩ ⟨x / 2 ^ (8 * k), hy128⟩ hy
  simp only at L F
  simp only [hm2, e, fdiv_nat, if_pos k8]
  rw [L]
  generalize UInt8.ofNat (256 - 2 ^ (8 - k) + x / 2 ^ (8 * k)) = b at *
  simp only [List.cons_append, lookF, F.1, F.2]
  have hl : ¬ (tailF (x : Int) k ++ r).length < k := by simp [tailF_len]
  rw [if_neg hl]
  have ht : (tailF (x : Int) k ++ r).take k = tailF (x : Int) k := by
    rw [List.take_append_of_le_length (by rw [tailF_len]; omega), List.take_of_length_le (by rw [tailF_len]; omega)]
  rw [ht, fold_tail x (by omega) k h6, hkk]
  rw [if_neg (by omega), if_neg (by simp)]
  rw [wrap64 (by omega) (by omega)]
  simp [tailF_len]


theorem u32uwrap (x : Int) : IntKind.u32.wrap x = x % 4294967296 := by
  have e : (2 : Int) ^ IntKind.u32.bits = 4294967296 := by decide
  have s : IntKind.u32.signed = false := rfl
  simp only [IntKind.wrap, e, s, Bool.false_and, Bool.false_eq_true, if_false]
theorem or32unat (a b : Nat) (ha : a < 2 ^ 32) (hb : b < 2 ^ 32) : or32 (a : Int) (b : Int) = ((a ||| b : Nat) : Int) := by
  unfold or32
  rw [BitVec.toNat_or, BitVec.ofInt_natCast, BitVec.ofInt_natCast, BitVec.toNat_ofNat, BitVec.toNat_ofNat, Nat.mod_eq_of_lt ha, Nat.mod_eq_of_lt hb, u32uwrap]
  have : a ||| b < 2 ^ 32 := Nat.or_lt_two_pow ha hb
  omega
theorem crcF_nat (bs : List UInt8) : ∃ c : Nat, c < 2 ^ 32 ∧ crcF bs = c := by
  unfold crcF
  rw [u32uwrap]
  generalize (BitVec.ofInt 32 IntKind.u32.max ^^^ BitVec.ofInt 32 (bs.foldl crcS 4294967295)).toNat = n
  exact ⟨n % 4294967296, by omega, by omega⟩
theorem or_add {i x b : Nat} (hb : b < 2 ^ i) : b ||| (2 ^ i * x) = 2 ^ i * x + b := by
  rw [Nat.or_comm]
  exact (Nat.two_pow_add_eq_or_of_lt hb x).symm

theorem sum_read (c : Nat) (hc : c < 2 ^ 32) : sumOf (UInt8.ofInt (c : Int)) (UInt8.ofInt ((c : Int).fdiv (2 ^ min 8 32))) (UInt8.ofInt ((c : Int).fdiv (2 ^ min 16 32))) (UInt8.ofInt ((c : Int).fdiv (2 ^ min 24 32))) = c := by
  have e1 : ((2 : Int) ^ min 8 32) = ((256 : Nat) : Int) := by decide
  have e2 : ((2 : Int) ^ min 16 32) = ((65536 : Nat) : Int) := by decide
  have e3 : ((2 : Int) ^ min 24 32) = ((16777216 : Nat) : Int) := by decide
  rw [e1, e2, e3, fdiv_nat, fdiv_nat, fdiv_nat]
  unfold sumOf shl32
  rw [ofInt_nat, ofInt_nat, ofInt_nat, ofInt_nat]
  have e4 : ((2 : Int) ^ min 8 32) = 256 := by decide
  have e5 : ((2 : Int) ^ min 16 32) = 65536 := by decide
  have e6 : ((2 : Int) ^ min 24 32) = 16777216 := by decide
  simp only [e4, e5, e6, u32uwrap]
  have f0 : ((c % 256 : Nat) : Int) % 4294967296 = ((c % 256 : Nat) : Int) := by omega
  have f1 : ((c / 256 % 256 : Nat) : Int) % 4294967296 * 256 % 4294967296 = ((2 ^ 8 * (c / 256 % 256) : Nat) : Int) := by omega
  have f2 : ((c / 65536 % 256 : Nat) : Int) % 4294967296 * 65536 % 4294967296 = ((2 ^ 16 * (c / 65536 % 256) : Nat) : Int) := by omega
  have f3 : ((c / 16777216 % 256 : Nat) : Int) % 4294967296 * 16777216 % 4294967296 = ((2 ^ 24 * (c / 16777216 % 256) : Nat) : Int) := by omega
  rw [f0, f1, f2, f3]
  rw [or32unat _ _ (by omega) (by omega), or_add (by omega)]
  rw [or32unat _ _ (by omega) (by omega), or_add (by omega)]
  rw [or32unat _ _ (by omega) (by omega), or_add (by omega)]
  omega

theorem open_seal (bs : List UInt8) : openF (sealF bs) = (some bs, 0) := by
  obtain ⟨c, hc, e⟩ := crcF_nat bs
  unfold openF sealF
  rw [e]
  have hl : (bs ++ sumB (c : Int)).length = bs.length + 4 := by simp [sumB]
  have g : ∀ i, i < 4 → (bs ++ sumB (c : Int)).getD (bs.length + 4 - 4 + i) 0 = (sumB (c : Int)).getD i 0 := by
    intro i hi
    rw [List.getD_eq_getElem?_getD, List.getD_eq_getElem?_getD, List.getElem?_append_right (by omega)]
    congr 2
    omega
  rw [hl, if_neg (by omega)]
  have g0 := g 0 (by omega)
  rw [Nat.add_zero] at g0
  rw [g0, g 1 (by omega), g 2 (by omega), g 3 (by omega)]
  have ht : (bs ++ sumB (c : Int)).take (bs.length + 4 - 4) = bs := by
    rw [show bs.length + 4 - 4 = bs.length from by omega, List.take_append_of_le_length (Nat.le_refl _), List.take_length]
  rw [ht, e]
  have := sum_read c hc
  simp only [sumB, List.getD_cons_zero, List.getD_cons_succ]
  rw [this]
  simp

theorem readN_num : ∀ (xs : List Nat) (r : List UInt8), (∀ x ∈ xs, x < 2 ^ 49) → readN xs.length (numsF (xs.map fun x : Nat => (x : Int)) ++ r) = some (xs.map fun x : Nat => (x : Int), r)
  | [], r, _ => rfl
  | x :: xs, r, h => by
    simp only [List.map_cons, numsF, List.length_cons, readN, List.append_assoc]
    have hl := look_num x (h x (by simp)) (numsF (xs.map fun x : Nat => (x : Int)) ++ r)
    rw [hl]
    simp only [ne_eq, not_true, if_false]
    have : (numF (x : Int) ++ (numsF (xs.map fun x : Nat => (x : Int)) ++ r)).drop (numF (x : Int)).length = numsF (xs.map fun x : Nat => (x : Int)) ++ r := by simp
    rw [this, readN_num xs r (fun y hy => h y (by simp [hy]))]
    rfl

theorem text_num (b : List UInt8) (hb : b.length ≤ 512) : textF 512 (numF (b.length : Int) ++ b) = (some b, 0, []) := by
  have hl := look_num b.length (by omega) b
  unfold textF
  rw [hl]
  simp only [ne_eq, not_true, if_false]
  rw [if_neg (by omega)]
  have e : ¬ ((b.length : Int) > ((numF (b.length : Int) ++ b).length : Int) - ((numF (b.length : Int)).length : Int)) := by
    rw [List.length_append]
    omega
  rw [if_neg e]
  simp

/-- A frame that may be is read as it was put. -/
theorem get_put (f : Fm) (ok : FOk f) : getF (putF f) = (some f, 0) := by
  obtain ⟨src, you, seq, ack, bits, body, kind, _, _, _⟩ := ok
  obtain ⟨k, s, y, q, a, b, bd⟩ := f
  simp only at src you seq ack bits body kind
  obtain ⟨k, rfl⟩ : ∃ n : Nat, k = n := ⟨k.toNat, by omega⟩
  obtain ⟨s, rfl⟩ : ∃ n : Nat, s = n := ⟨s.toNat, by omega⟩
  obtain ⟨y, rfl⟩ : ∃ n : Nat, y = n := ⟨y.toNat, by omega⟩
  obtain ⟨q, rfl⟩ : ∃ n : Nat, q = n := ⟨q.toNat, by omega⟩
  obtain ⟨a, rfl⟩ : ∃ n : Nat, a = n := ⟨a.toNat, by omega⟩
  obtain ⟨b, rfl⟩ : ∃ n : Nat, b = n := ⟨b.toNat, by omega⟩
  unfold getF putF
  rw [open_seal]
  have h6 := readN_num [k, s, y, q, a, b] (numF (bd.length : Int) ++ bd) (fun x hx => by
    simp only [List.mem_cons, List.not_mem_nil, or_false] at hx
    rcases hx with rfl | rfl | rfl | rfl | rfl | rfl <;> omega)
  simp only [List.length_cons, List.length_nil, List.map_cons, List.map_nil, Nat.zero_add, Nat.reduceAdd] at h6
  have hp : getP (frameB ⟨(k : Int), s, y, q, a, b, bd⟩) = some ⟨(k : Int), s, y, q, a, b, bd⟩ := by
    unfold getP frameB
    simp only [List.cons_append, ne_eq, not_true, if_false, List.append_assoc]
    rw [h6]
    simp only
    rw [text_num bd body]
    simp only [fmOf, List.getD_cons_zero, List.getD_cons_succ, true_and]
    rw [if_pos (check_ok.2 ⟨src, you, seq, ack, bits, body, kind, by assumption, by assumption, by assumption⟩)]
  simp only
  rw [hp]

theorem get_out (f : Fm) (ok : FOk f) : getF (outB f) = (some f, 0) := by
  unfold outB
  rw [if_pos (check_ok.2 ok)]
  exact get_put f ok

end Go.Am

/- What is told is a beginning of what was sent: what stays true of a pair. -/
namespace Go.Am
open Go.Proofs

/-- Sessions that have not begun yet. -/
def later (T : Tn) (x y : Int) : Prop := T.me < x ∨ (T.me = x ∧ (T.you < y ∨ (T.you = y ∧ T.up = false)))
/-- What is on the way and waits is what was sent. -/
structure Sn (T : Tn) (S : List (List UInt8)) : Prop where
  len : (S.length : Int) = T.next + T.queue.length
  que : T.queue = S.drop T.next.toNat
  way : ∀ s ∈ T.way, 1 ≤ s.1 ∧ s.1 ≤ T.next ∧ S[(s.1 - 1).toNat]? = some s.2.1
/-- What came early is what was sent. -/
structure Rc (T : Tn) (S D : List (List UInt8)) : Prop where
  len : (D.length : Int) = T.expect
  ear : ∀ e ∈ T.early, S[(e.1 - 1).toNat]? = some e.2
/-- A datagram to r. -/
def Dg (sent : Ac) (r : Nat) (b : List UInt8) : Prop := ∃ f, b = outB f ∧ FOk f ∧ (f.kind = 2 → (aGet (f.src, f.you, (r : Int)) sent)[(f.seq - 1).toNat]? = some f.body)

structure Loc (sent told : Ac) (i : Nat) (T : Tn) : Prop where
  lat : ∀ x y, later T x y → aGet (x, y, ((1 - i : Nat) : Int)) sent = [] ∧ aGet (y, x, (i : Int)) told = []
  snd : T.up = true → Sn T (aGet (T.me, T.you, ((1 - i : Nat) : Int)) sent)
  rcv : T.up = true → Rc T (aGet (T.you, T.me, (i : Int)) sent) (aGet (T.you, T.me, (i : Int)) told)
  dow : T.up = false → T.queue = [] ∧ T.way = []
  you : 0 ≤ T.you ∧ T.you ≤ 1099511627776
  out : ∀ b ∈ T.out, Dg sent (1 - i) b

structure Sem (P : Pr) : Prop where
  loc : ∀ i, i < 2 → Loc P.sent P.told i (P.t i)
  bag : ∀ i, i < 2 → ∀ b ∈ P.bag i, Dg P.sent i b
  pre : ∀ k, aGet k P.told <+: aGet k P.sent

/-! ### what was sent only grows -/

def Gr (s s' : Ac) : Prop := ∀ k, aGet k s <+: aGet k s'
theorem Gr.add (k : Ky) (ys : List (List UInt8)) (s : Ac) : Gr s (aAdd k ys s) := fun k' => by
  by_cases e : k' = k
  · subst e; rw [aGet_aAdd]; exact List.prefix_append _ _
  · rw [aGet_aAdd_ne ys e]; exact List.prefix_rfl
theorem pre_get {l m : List (List UInt8)} (h : l <+: m) {n : Nat} {x : List UInt8} (e : l[n]? = some x) : m[n]? = some x := by
  obtain ⟨r, rfl⟩ := h
  rw [List.getElem?_append_left (List.getElem?_eq_some_iff.1 e).1]
  exact e
theorem Dg.gr {s s' : Ac} (g : Gr s s') {r : Nat} {b : List UInt8} (d : Dg s r b) : Dg s' r b := by
  obtain ⟨f, h1, h2, h3⟩ := d
  exact ⟨f, h1, h2, fun hk => pre_get (g _) (h3 hk)⟩

variable {sent told : Ac} {i n : Nat} {T : Tn}

/-- What the other side sends, and what is told there, touches this side's words not. -/
theorem Loc.gr {s' t' : Ac} (L : Loc sent told i T) (g : Gr sent s') (h1 : ∀ x y, aGet (x, y, ((1 - i : Nat) : Int)) s' = aGet (x, y, ((1 - i : Nat) : Int)) sent) (h2 : ∀ x y, aGet (x, y, (i : Int)) t' = aGet (x, y, (i : Int)) told) : Loc s' t' i T := by
  obtain ⟨lat, snd, rcv, dow, you, out⟩ := L
  refine ⟨fun x y hl => ?_, fun hu => ?_, fun hu => ?_, dow, you, fun b hb => (out b hb).gr g⟩
  · rw [h1, h2]; exact lat x y hl
  · rw [h1]; exact snd hu
  · rw [h2]
    exact ⟨(rcv hu).len, fun e he => pre_get (g _) ((rcv hu).ear e he)⟩

/-! ### saying -/

theorem fok_hello {s y : Int} (hs : 1 ≤ s ∧ s ≤ 1099511627776) (hy : 0 ≤ y ∧ y ≤ 1099511627776) : FOk { helloM y with src := s } :=
  ⟨hs, hy, by simp [helloM], by simp [helloM], by simp [helloM], by simp [helloM], .inl rfl, by simp [helloM], by simp [helloM], by simp [helloM]⟩
theorem fok_data {s y q : Int} {b : List UInt8} (hs : 1 ≤ s ∧ s ≤ 1099511627776) (hy : 0 ≤ y ∧ y ≤ 1099511627776) (hq : 1 ≤ q ∧ q ≤ 1099511627776) (hb : b.length ≤ 512) : FOk { dataM y q b with src := s } :=
  ⟨hs, hy, by simp [dataM]; omega, by simp [dataM], by simp [dataM], hb, .inr (.inl rfl), by simp [dataM], by simp [dataM]; omega, by simp [dataM]⟩
theorem fok_ack {s y a b : Int} (hs : 1 ≤ s ∧ s ≤ 1099511627776) (hy : 0 ≤ y ∧ y ≤ 1099511627776) (ha : 0 ≤ a ∧ a ≤ 1099511627776) (hb : 0 ≤ b ∧ b < 65536) : FOk { ackM y a b with src := s } :=
  ⟨hs, hy, by simp [ackM], ha, hb, by simp [ackM], .inr (.inr rfl), by simp [ackM], by simp [ackM], by simp [ackM]⟩

theorem Loc.say (L : Loc sent told i T) (f : Fm) (ok : FOk { f with src := T.me }) (hd : f.kind = 2 → (aGet (T.me, f.you, ((1 - i : Nat) : Int)) sent)[(f.seq - 1).toNat]? = some f.body) : Loc sent told i (T.say f) := by
  obtain ⟨lat, snd, rcv, dow, you, out⟩ := L
  refine ⟨lat, fun hu => ?_, fun hu => ?_, dow, you, fun b hb => ?_⟩
  · obtain ⟨a, b, c⟩ := snd hu; exact ⟨a, b, c⟩
  · obtain ⟨a, b⟩ := rcv hu; exact ⟨a, b⟩
  · simp only [Tn.say, List.mem_append, List.mem_singleton] at hb
    rcases hb with hb | rfl
    · exact out b hb
    · exact ⟨_, rfl, ok, hd⟩

theorem TI.mer (t : TI n T) (hn : n ≤ 10000000) : 1 ≤ T.me ∧ T.me ≤ 1099511627776 := by have := t.me; omega
theorem Loc.helloSay (L : Loc sent told i T) (t : TI n T) (hn : n ≤ 10000000) {y : Int} (hy : 0 ≤ y ∧ y ≤ 1099511627776) : Loc sent told i (T.say (helloM y)) :=
  L.say _ (fok_hello (t.mer hn) hy) (by simp [helloM])

theorem Loc.quiet (L : Loc sent told i T) : Loc sent told i { T with silence := 0 } := by
  obtain ⟨lat, snd, rcv, dow, you, out⟩ := L
  exact ⟨lat, fun hu => by obtain ⟨a, b, c⟩ := snd hu; exact ⟨a, b, c⟩, fun hu => by obtain ⟨a, b⟩ := rcv hu; exact ⟨a, b⟩, dow, you, out⟩
theorem Loc.clocks (L : Loc sent told i T) (a b : Int) : Loc sent told i { T with silence := a, ticks := b } := by
  obtain ⟨lat, snd, rcv, dow, you, out⟩ := L
  exact ⟨lat, fun hu => by obtain ⟨a, b, c⟩ := snd hu; exact ⟨a, b, c⟩, fun hu => by obtain ⟨a, b⟩ := rcv hu; exact ⟨a, b⟩, dow, you, out⟩
theorem Loc.stop (L : Loc sent told i T) (t : TI n T) (hn : n ≤ 10000000) : Loc sent told i T.stop := by
  obtain ⟨lat, snd, rcv, dow, you, out⟩ := L
  have hme := t.me
  have e : min (T.me + 1) 1099511627776 = T.me + 1 := by omega
  refine ⟨fun x y hl => lat x y (.inl ?_), fun hu => by simp [Tn.stop] at hu, fun hu => by simp [Tn.stop] at hu, fun _ => ⟨rfl, rfl⟩, you, out⟩
  unfold later at hl
  simp only [Tn.stop, e] at hl
  omega
theorem Loc.fresh (L : Loc sent told i T) {m : Int} (h : T.me < m) : Loc sent told i (Tn.fresh m) := by
  obtain ⟨lat, snd, rcv, dow, you, out⟩ := L
  refine ⟨fun x y hl => lat x y (.inl ?_), fun hu => by simp [Tn.fresh] at hu, fun hu => by simp [Tn.fresh] at hu, fun _ => ⟨rfl, rfl⟩, by simp [Tn.fresh], by simp [Tn.fresh]⟩
  unfold later at hl
  simp only [Tn.fresh] at hl
  omega
theorem Loc.begin (L : Loc sent told i T) (t : TI n T) (hn : n ≤ 10000000) {y : Int} (hy : 0 ≤ y ∧ y ≤ 1099511627776) (hl : later T T.me y) : Loc sent told i (T.begin y) := by
  obtain ⟨lat, snd, rcv, dow, you, out⟩ := L
  obtain ⟨e1, e2⟩ := lat _ _ hl
  refine Loc.say (T := { T with up := true, silence := 0, next := 0, way := [], queue := [], expect := 0, early := [], you := y, epoch := T.epoch + 1 }) ⟨fun x z hz => lat x z ?_, fun _ => ?_, fun _ => ?_, fun h => by simp at h, hy, out⟩ _ (fok_hello (t.mer hn) hy) (by simp [helloM])
  · unfold later at hl hz ⊢
    simp only [Bool.true_eq_false, and_false, or_false] at hz
    omega
  · simp only
    rw [e1]
    exact ⟨by simp, by simp, by simp⟩
  · simp only
    rw [e2]
    exact ⟨by simp, by simp⟩
theorem Loc.hint (L : Loc sent told i T) (t : TI n T) (hn : n ≤ 10000000) (y : Int) : Loc sent told i (T.hint y) := by
  unfold Tn.hint
  split
  · exact L.helloSay t hn (by omega)
  · exact L
theorem Loc.hello (L : Loc sent told i T) (t : TI n T) (hn : n ≤ 10000000) {f : Fm} (ok : FOk f) : Loc sent told i (T.hello f) := by
  have hs := ok.src
  unfold Tn.hello
  split
  · split
    · exact L.helloSay t hn (by omega)
    · exact L
  · split
    · rename_i h
      refine L.begin t hn (by omega) ?_
      unfold later
      rcases h with h | ⟨h, hu⟩
      · exact .inr ⟨rfl, .inl h⟩
      · exact .inr ⟨rfl, .inr ⟨h.symm, hu⟩⟩
    · split
      · exact L.quiet
      · exact L

/-! ### sliding -/

theorem Loc.step (L : Loc sent told i T) (t : TI n T) (hn : n ≤ 10000000) (hu : T.up = true) {b : List UInt8} {q : List (List UInt8)} (e : T.queue = b :: q) : Loc sent told i (T.step b q) := by
  have nx := t.nx
  have qb := t.qu b (by rw [e]; simp)
  obtain ⟨lat, snd, rcv, dow, you, out⟩ := L
  obtain ⟨s1, s2, s3⟩ := snd hu
  rw [e] at s1 s2 nx
  simp only [List.length_cons] at s1 nx
  have hlt : T.next.toNat < (aGet (T.me, T.you, ((1 - i : Nat) : Int)) sent).length := by omega
  have hb : (aGet (T.me, T.you, ((1 - i : Nat) : Int)) sent)[T.next.toNat]? = some b := by
    have h := List.drop_eq_getElem_cons hlt
    rw [← s2] at h
    rw [List.getElem?_eq_getElem hlt]
    exact congrArg some (List.cons.inj h).1.symm
  have hq : q = (aGet (T.me, T.you, ((1 - i : Nat) : Int)) sent).drop (T.next + 1).toNat := by
    have h := List.drop_eq_getElem_cons hlt
    rw [← s2] at h
    rw [(List.cons.inj h).2]
    congr 1
    omega
  refine Loc.say (T := { T with next := T.next + 1, way := T.way ++ [(T.next + 1, b, 0)], queue := q }) ⟨lat, fun _ => ⟨by simp only; omega, hq, fun s hs => ?_⟩, fun hu => by obtain ⟨a, b⟩ := rcv hu; exact ⟨a, b⟩, fun h => (by rw [hu] at h; cases h), you, out⟩ _ (fok_data (t.mer hn) you (by omega) qb) (fun _ => ?_)
  · simp only [List.mem_append, List.mem_singleton] at hs
    rcases hs with hs | rfl
    · have := s3 s hs
      exact ⟨this.1, by show s.1 ≤ T.next + 1; omega, this.2.2⟩
    · refine ⟨by show 1 ≤ T.next + 1; omega, Int.le_refl _, ?_⟩
      show (aGet (T.me, T.you, ((1 - i : Nat) : Int)) sent)[(T.next + 1 - 1).toNat]? = some b
      rw [show T.next + 1 - 1 = T.next from by omega]
      exact hb
  · show (aGet (T.me, T.you, ((1 - i : Nat) : Int)) sent)[(T.next + 1 - 1).toNat]? = some b
    rw [show T.next + 1 - 1 = T.next from by omega]
    exact hb
theorem Loc.slideGo (hn : n ≤ 10000000) : ∀ (q : List (List UInt8)) (T : Tn), T.queue = q → T.up = true → TI n T → Loc sent told i T → Loc sent told i (T.slideGo q)
  | [], T, _, _, _, L => L
  | b :: q, T, e, hu, t, L => by
    unfold Tn.slideGo
    split
    · exact Loc.slideGo hn q (T.step b q) rfl hu (t.step e) (L.step t hn hu e)
    · exact L
theorem Loc.acks (L : Loc sent told i T) (t : TI n T) (hn : n ≤ 10000000) (hu : T.up = true) (f : Fm) : Loc sent told i (T.acks f) := by
  refine Loc.slideGo hn _ _ rfl hu ?_ ?_
  · obtain ⟨me, ep, ti, si, nx, wa, qu, wl, ex, ek, er⟩ := t
    have := List.length_filter_le (fun s => !acked f.ack f.bits s) T.way
    exact ⟨me, ep, ti, si, nx, fun s hs => wa s (List.mem_filter.1 hs).1, qu, Nat.le_trans (Nat.add_le_add_left this _) wl, ex, ek, er⟩
  · obtain ⟨lat, snd, rcv, dow, you, out⟩ := L
    obtain ⟨s1, s2, s3⟩ := snd hu
    exact ⟨lat, fun _ => ⟨s1, s2, fun s hs => s3 s (List.mem_filter.1 hs).1⟩, fun hu => by obtain ⟨a, b⟩ := rcv hu; exact ⟨a, b⟩, fun h => (by rw [hu] at h; cases h), you, out⟩

theorem Loc.again (hn : n ≤ 10000000) {S : List (List UInt8)} : ∀ (l : List (Int × List UInt8 × Int)) (T : Tn), TI n T → Loc sent told i T → S = aGet (T.me, T.you, ((1 - i : Nat) : Int)) sent → (∀ s ∈ l, (1 ≤ s.1 ∧ s.1 ≤ 10000000 ∧ S[(s.1 - 1).toNat]? = some s.2.1) ∧ s.2.1.length ≤ 512) → Loc sent told i (T.again l)
  | [], T, _, L, _, _ => L
  | s :: l, T, t, L, e, h => by
    unfold Tn.again
    have hs := h s (by simp)
    split
    · refine Loc.again hn l _ (t.say _) (L.say _ (fok_data (t.mer hn) L.you (by omega) hs.2) (fun _ => ?_)) e (fun x hx => h x (by simp [hx]))
      show (aGet (T.me, T.you, ((1 - i : Nat) : Int)) sent)[(s.1 - 1).toNat]? = some s.2.1
      rw [← e]
      exact hs.1.2.2
    · exact Loc.again hn l _ t L e (fun x hx => h x (by simp [hx]))
theorem Loc.tick (L : Loc sent told i T) (t : TI n T) (hn : n < 10000000) : Loc sent told i T.tick := by
  have t1 : TI (n + 1) T.tick1 := by
    obtain ⟨me, ep, ti, si, nx, wa, qu, wl, ex, ek, er⟩ := t.mono (m := n + 1) (by omega)
    have := t.ti
    exact ⟨me, ep, by simp only [Tn.tick1]; omega, si, nx, wa, qu, wl, ex, ek, er⟩
  have L1 : Loc sent told i T.tick1 := L.clocks T.silence (T.ticks + 1)
  unfold Tn.tick
  split
  · split
    · exact L1.helloSay t1 (by omega) L.you
    · exact L1
  · rename_i hu'
    have hu : T.up = true := by simpa using hu'
    have L2 : Loc sent told i T.tick1.tick2 := L.clocks (T.silence + 1) (T.ticks + 1)
    have t2 : TI (n + 1) T.tick1.tick2 := by
      obtain ⟨me, ep, ti, si, nx, wa, qu, wl, ex, ek, er⟩ := t1
      have := t.si
      exact ⟨me, ep, ti, by simp only [Tn.tick2, Tn.tick1]; omega, nx, wa, qu, wl, ex, ek, er⟩
    split
    · exact L2.stop t2 (by omega)
    · have t3 : TI (n + 1) T.tick1.tick2.tick3 := by
        unfold Tn.tick3
        split
        · exact t2.say _
        · exact t2
      have L3 : Loc sent told i T.tick1.tick2.tick3 := by
        unfold Tn.tick3
        split
        · exact L2.helloSay t2 (by omega) L.you
        · exact L2
      have e3 : T.tick1.tick2.tick3.way = T.way ∧ T.tick1.tick2.tick3.me = T.me ∧ T.tick1.tick2.tick3.you = T.you ∧ T.tick1.tick2.tick3.up = T.up := by
        unfold Tn.tick3
        split <;> exact ⟨rfl, rfl, rfl, rfl⟩
      have s3 := (L.snd hu).way
      have nx := t.nx
      have L4 := Loc.again (n := n + 1) (by omega) (S := aGet (T.me, T.you, ((1 - i : Nat) : Int)) sent) T.way T.tick1.tick2.tick3 t3 L3 (by rw [e3.2.1, e3.2.2.1]) (fun s hs => ⟨by have := s3 s hs; exact ⟨this.1, by omega, this.2.2⟩, (t.wa s hs).2.2⟩)
      generalize T.tick1.tick2.tick3 = T3 at *
      obtain ⟨k1, k2, k3, k4, k5, k6⟩ := again_keep T.way T3
      unfold Tn.ages
      rw [e3.1]
      obtain ⟨lat, snd, rcv, dow, you, out⟩ := L4
      have hu4 : (T3.again T.way).up = true := by rw [k1, e3.2.2.2]; exact hu
      refine ⟨lat, fun _ => ?_, fun hu => by obtain ⟨a, b⟩ := rcv hu; exact ⟨a, b⟩, fun h => (by simp only at h; rw [hu4] at h; cases h), you, out⟩
      obtain ⟨s1, s2, s3'⟩ := snd hu4
      refine ⟨s1, s2, fun s hs => ?_⟩
      simp only [List.mem_map] at hs
      obtain ⟨s0, hs0, rfl⟩ := hs
      refine s3' s0 ?_
      rw [k4, e3.1]
      exact hs0

end Go.Am

/- What is told is a beginning of what was sent: taking, and whole acts. -/
namespace Go.Am
open Go.Proofs
variable {sent told : Ac} {i n : Nat} {T : Tn}

theorem pre_of_get : ∀ {l m : List (List UInt8)}, (∀ (j : Nat) (x : List UInt8), l[j]? = some x → m[j]? = some x) → l <+: m
  | [], _, _ => List.nil_prefix
  | a :: l, m, h => by
    have h0 := h 0 a rfl
    cases m with
    | nil => cases h0
    | cons b m =>
      obtain rfl : b = a := by simpa using h0
      exact List.cons_prefix_cons.2 ⟨rfl, pre_of_get (fun j x hx => by have := h (j + 1) x (by simpa using hx); simpa using this)⟩

theorem orB_lt {x : Int} {i : Nat} (h0 : 0 ≤ x) (h1 : x < 2 ^ i) (hi : i < 16) : 0 ≤ orB x i ∧ orB x i < 2 ^ (i + 1) := by
  obtain ⟨y, rfl⟩ : ∃ y : Nat, x = y := ⟨x.toNat, by omega⟩
  have hy : y < 2 ^ i := by
    have : ((2 : Int) ^ i) = ((2 ^ i : Nat) : Int) := by simp
    omega
  have h64 : (2 : Nat) ^ i ≤ 2 ^ 15 := Nat.pow_le_pow_right (by omega) (by omega)
  unfold orB
  have e1 : (1 : Int) * 2 ^ min i 64 = ((2 ^ i : Nat) : Int) := by
    rw [show min i 64 = i from by omega]
    simp
  rw [e1, wrap64 (x := ((2 ^ i : Nat) : Int)) (by omega) (by omega), BitVec.toNat_or, BitVec.ofInt_natCast, BitVec.ofInt_natCast, BitVec.toNat_ofNat, BitVec.toNat_ofNat, Nat.mod_eq_of_lt (by omega), Nat.mod_eq_of_lt (by omega)]
  have h2 : y ||| 2 ^ i < 2 ^ (i + 1) := Nat.or_lt_two_pow (by rw [Nat.pow_succ]; omega) (by rw [Nat.pow_succ]; omega)
  have h3 : (2 : Nat) ^ (i + 1) ≤ 2 ^ 16 := Nat.pow_le_pow_right (by omega) (by omega)
  have e2 : ((2 : Int) ^ (i + 1)) = ((2 ^ (i + 1) : Nat) : Int) := by simp
  rw [wrap64 (by omega) (by omega), e2]
  omega
theorem bits_lt (T : Tn) : ∀ m, m ≤ 16 → 0 ≤ T.bitsTo m ∧ T.bitsTo m < 2 ^ m
  | 0, _ => by simp [Tn.bitsTo]
  | m + 1, h => by
    have ih := bits_lt T m (by omega)
    unfold Tn.bitsTo
    split
    · exact orB_lt ih.1 ih.2 (by omega)
    · have e : ((2 : Int) ^ (m + 1)) = 2 ^ m * 2 := by rw [Int.pow_succ]
      omega

theorem tell_sem {S : List (List UInt8)} : ∀ (k : Nat) (T : Tn), 0 ≤ T.expect → (∀ e ∈ T.early, S[(e.1 - 1).toNat]? = some e.2) →
    (Tn.tell k T).1.expect = T.expect + (Tn.tell k T).2.length ∧ (∀ j x, (Tn.tell k T).2[j]? = some x → S[T.expect.toNat + j]? = some x) ∧ ∀ e ∈ (Tn.tell k T).1.early, S[(e.1 - 1).toNat]? = some e.2
  | 0, T, _, h => ⟨by simp [Tn.tell], by simp [Tn.tell], h⟩
  | k + 1, T, h0, h => by
    unfold Tn.tell
    split
    · exact ⟨by simp, by simp, h⟩
    · rename_i b hb
      obtain ⟨q1, q2, q3⟩ := tell_sem k { T with early := eDel (T.expect + 1) T.early, expect := T.expect + 1 } (by simp only; omega) (fun e he => h e (eDel_mem he))
      refine ⟨?_, fun j x hj => ?_, q3⟩
      · rw [q1]
        simp only [List.length_cons]
        omega
      · cases j with
        | zero =>
          obtain rfl : b = x := by simpa using hj
          have := h _ (eGet_mem hb)
          simp only at this
          rw [show T.expect + 1 - 1 = T.expect from by omega] at this
          exact this
        | succ j =>
          have := q2 j x (by simpa using hj)
          simp only at this
          rw [show (T.expect + 1).toNat + j = T.expect.toNat + (j + 1) from by omega] at this
          exact this

theorem aGet_add_nil (k k' : Ky) (es : Ac) : aGet k (aAdd k' [] es) = aGet k es := by
  by_cases e : k = k'
  · subst e; rw [aGet_aAdd]; simp
  · exact aGet_aAdd_ne [] e es

theorem Loc.data (L : Loc sent told i T) (t : TI n T) (hn : n ≤ 10000000) (hu : T.up = true) {f : Fm} (ok : FOk f) (hd : (aGet (T.you, T.me, (i : Int)) sent)[(f.seq - 1).toNat]? = some f.body) (pre : ∀ k, aGet k told <+: aGet k sent) :
    (T.data f).1.you = T.you ∧ (T.data f).1.me = T.me ∧ Loc sent (aAdd (T.you, T.me, (i : Int)) (T.data f).2 told) i (T.data f).1 ∧ ∀ k, aGet k (aAdd (T.you, T.me, (i : Int)) (T.data f).2 told) <+: aGet k sent := by
  have tk := t.keep f ok.seq.2
  have tt := TI.tell (T.keep f).early.length (T.keep f) tk
  have kk : (T.keep f).me = T.me ∧ (T.keep f).you = T.you ∧ (T.keep f).up = T.up ∧ (T.keep f).expect = T.expect ∧ (T.keep f).way = T.way ∧ (T.keep f).queue = T.queue ∧ (T.keep f).next = T.next ∧ (T.keep f).out = T.out := by
    unfold Tn.keep
    split <;> exact ⟨rfl, rfl, rfl, rfl, rfl, rfl, rfl, rfl⟩
  have rc := L.rcv hu
  have ear : ∀ e ∈ (T.keep f).early, (aGet (T.you, T.me, (i : Int)) sent)[(e.1 - 1).toNat]? = some e.2 := by
    intro e he
    unfold Tn.keep at he
    split at he
    · rcases ePut_mem' he with g | g
      · exact rc.ear e g
      · rw [g]
        exact hd
    · exact rc.ear e he
  have hx := t.ex
  obtain ⟨q1, q2, q3⟩ := tell_sem (T.keep f).early.length (T.keep f) (by rw [kk.2.2.2.1]; exact hx.1) ear
  rw [kk.2.2.2.1] at q1 q2
  obtain ⟨r1, r2, r3, _, _, r6, r7, r8, r9, _⟩ := tell_keep (T.keep f).early.length (T.keep f)
  rw [kk.1] at r1
  rw [kk.2.1] at r2
  rw [kk.2.2.1] at r3
  rw [kk.2.2.2.2.1] at r6
  rw [kk.2.2.2.2.2.1] at r7
  rw [kk.2.2.2.2.2.2.1] at r8
  rw [kk.2.2.2.2.2.2.2] at r9
  have hpre : ∀ k, aGet k (aAdd (T.you, T.me, (i : Int)) (T.data f).2 told) <+: aGet k sent := by
    intro k
    by_cases e : k = (T.you, T.me, (i : Int))
    · subst e
      rw [aGet_aAdd]
      refine pre_of_get (fun j x hj => ?_)
      by_cases c : j < (aGet (T.you, T.me, (i : Int)) told).length
      · rw [List.getElem?_append_left c] at hj
        exact pre_get (pre _) hj
      · rw [List.getElem?_append_right (by omega)] at hj
        have := q2 _ x hj
        have hl := rc.len
        rw [show T.expect.toNat + (j - (aGet (T.you, T.me, (i : Int)) told).length) = j from by omega] at this
        exact this
    · rw [aGet_aAdd_ne _ e]
      exact pre k
  have e2 : (T.data f).2 = (Tn.tell (T.keep f).early.length (T.keep f)).2 := rfl
  have e1 : (T.data f).1 = (Tn.tell (T.keep f).early.length (T.keep f)).1.say (ackM T.you (Tn.tell (T.keep f).early.length (T.keep f)).1.expect ((Tn.tell (T.keep f).early.length (T.keep f)).1.bitsTo 16)) := rfl
  rw [← e2] at q1 q2
  generalize (T.data f).2 = l at *
  generalize (T.data f).1 = T' at *
  generalize (Tn.tell (T.keep f).early.length (T.keep f)).1 = T2 at *
  have hb := bits_lt T2 16 (Nat.le_refl _)
  have L2 : Loc sent (aAdd (T.you, T.me, (i : Int)) l told) i T2 := by
    obtain ⟨lat, snd, rcv, dow, you, out⟩ := L
    have lq : ∀ x y, later T2 x y ↔ later T x y := fun x y => by unfold later; rw [r1, r2, r3]
    refine ⟨fun x y hl => ?_, fun _ => ?_, fun _ => ?_, fun h => ?_, by rw [r2]; exact you, by rw [r9]; exact out⟩
    · have hl' := (lq x y).1 hl
      have ne : ((y, x, (i : Int)) : Ky) ≠ (T.you, T.me, (i : Int)) := by
        intro e
        have ex : x = T.me := congrArg (fun k : Ky => k.2.1) e
        have ey : y = T.you := congrArg (fun k : Ky => k.1) e
        unfold later at hl'
        rw [ex, ey, hu] at hl'
        simp at hl'
      rw [aGet_aAdd_ne _ ne]
      exact lat x y hl'
    · rw [r1, r2]
      obtain ⟨a, b, c⟩ := snd hu
      exact ⟨by rw [r7, r8]; exact a, by rw [r7, r8]; exact b, by rw [r6, r8]; exact c⟩
    · rw [r1, r2, aGet_aAdd]
      exact ⟨by have := rc.len; rw [List.length_append, q1]; omega, q3⟩
    · rw [r3, hu] at h; cases h
  have hx2 := tt.ex
  rw [e1]
  refine ⟨r2, r1, L2.say _ ?_ (by simp [ackM]), hpre⟩
  have hm : 1 ≤ T2.me ∧ T2.me ≤ 1099511627776 := by rw [r1]; exact t.mer hn
  exact fok_ack hm L.you hx2 (by omega)
where ePut_mem' {k : Int} {b : List UInt8} {x : Int × List UInt8} : ∀ {l : Es}, x ∈ ePut k b l → x ∈ l ∨ x = (k, b)
  | [], hx => by simp [ePut] at hx; exact .inr hx
  | p :: l, hx => by
    simp only [ePut] at hx
    split at hx
    · simp only [List.mem_cons] at hx
      rcases hx with rfl | hx
      · exact .inr rfl
      · exact .inl (by simp [hx])
    · simp only [List.mem_cons] at hx
      rcases hx with rfl | hx
      · exact .inl (by simp)
      · rcases ePut_mem' hx with g | g
        · exact .inl (by simp [g])
        · exact .inr g

/-- A datagram is taken. -/
theorem Loc.take (L : Loc sent told i T) (t : TI n T) (hn : n ≤ 10000000) {b : List UInt8} (d : Dg sent i b) (pre : ∀ k, aGet k told <+: aGet k sent) :
    (T.take b).2.2 = 0 ∧ Loc sent (aAdd ((T.take b).1.you, (T.take b).1.me, (i : Int)) (T.take b).2.1 told) i (T.take b).1 ∧ ∀ k, aGet k (aAdd ((T.take b).1.you, (T.take b).1.me, (i : Int)) (T.take b).2.1 told) <+: aGet k sent := by
  obtain ⟨f, rfl, ok, hd⟩ := d
  have nil : ∀ {T' : Tn} (k : Ky), Loc sent told i T' → Loc sent (aAdd k [] told) i T' ∧ ∀ k', aGet k' (aAdd k [] told) <+: aGet k' sent := fun k L' =>
    ⟨L'.gr (fun _ => List.prefix_rfl) (fun _ _ => rfl) (fun _ _ => aGet_add_nil _ _ _), fun k' => by rw [aGet_add_nil]; exact pre k'⟩
  unfold Tn.take
  rw [get_out f ok]
  dsimp only
  split
  · exact ⟨rfl, nil _ (L.hello t hn ok)⟩
  · rename_i k1
    split
    · refine ⟨rfl, nil _ ?_⟩
      dsimp only
      split
      · have := ok.src
        exact L.helloSay t hn (by omega)
      · exact L
    · rename_i hc
      have hu : T.up = true := by
        cases h : T.up with
        | true => rfl
        | false => exact absurd (.inl h) hc
      have hs : f.src = T.you := by
        by_cases h : f.src = T.you
        · exact h
        · exact absurd (.inr (.inl h)) hc
      have hy : f.you = T.me := by
        by_cases h : f.you = T.me
        · exact h
        · exact absurd (.inr (.inr h)) hc
      split
      · exact ⟨rfl, nil _ (L.quiet.acks t.quiet hn hu f)⟩
      · rename_i k3
        have k2 : f.kind = 2 := by
          rcases ok.kind with h | h | h
          · exact absurd h k1
          · exact h
          · exact absurd h k3
        have hd2 := hd k2
        rw [hs, hy] at hd2
        obtain ⟨a1, a2, a3, a4⟩ := L.quiet.data t.quiet hn hu ok hd2 pre
        refine ⟨rfl, ?_, ?_⟩
        · rw [a1, a2]; exact a3
        · rw [a1, a2]; exact a4

/-! ### whole acts -/

theorem Sem.turn {P : Pr} (s : Sem P) {i : Nat} (hi : i < 2) {T : Tn} (L : Loc P.sent P.told i T) : Sem (P.turn i T) := by
  refine ⟨fun j hj => ?_, s.bag, s.pre⟩
  by_cases e : j = i
  · subst e
    show Loc P.sent P.told j (set1 P.t j T j)
    rw [set1usame]
    exact L
  · show Loc P.sent P.told j (set1 P.t i T j)
    rw [set1une _ _ e]
    exact s.loc j hj
theorem Sem.lose {P : Pr} (s : Sem P) (i n : Nat) : Sem (P.lose i n) := by
  refine ⟨s.loc, fun j hj b hb => ?_, s.pre⟩
  by_cases e : j = i
  · subst e
    have hb' : b ∈ set1 P.bag j ((P.bag j).eraseIdx n) j := hb
    rw [set1usame] at hb'
    exact s.bag j hj b (List.mem_of_mem_eraseIdx hb')
  · have hb' : b ∈ set1 P.bag i ((P.bag i).eraseIdx n) j := hb
    rw [set1une _ _ e] at hb'
    exact s.bag j hj b hb'

theorem Sem.sends {P : Pr} (s : Sem P) {n : Nat} (I : PrI n P) (hn : n < 10000000) {i : Nat} (hi : i < 2) (b : List UInt8) : Sem (P.sends i b) := by
  have L := s.loc i hi
  have t := I.t i hi
  unfold Pr.sends
  by_cases c : ((P.t i).send b).2 = 0
  · rw [if_pos c]
    obtain ⟨hb, hu⟩ := send_ok c
    have c3 : ¬ (P.t i).room < 1 := by
      intro h
      have : ((P.t i).send b).2 = 7 := by
        unfold Tn.send
        rw [if_neg (by rw [hu]; simp), if_neg (by omega), if_pos h]
      omega
    have eS : ((P.t i).send b).1 = ((P.t i).wait b).slide := by
      unfold Tn.send
      rw [if_neg (by rw [hu]; simp), if_neg (by omega), if_neg c3]
    have kk := slideGo_keep ((P.t i).wait b).queue ((P.t i).wait b)
    have hme : ((P.t i).send b).1.me = (P.t i).me := by rw [eS]; exact kk.1
    have hyo : ((P.t i).send b).1.you = (P.t i).you := by rw [eS]; exact kk.2.1
    rw [hme, hyo]
    obtain ⟨k, hk⟩ : ∃ k : Ky, k = ((P.t i).me, (P.t i).you, ((1 - i : Nat) : Int)) := ⟨_, rfl⟩
    rw [← hk]
    have gr := Gr.add k [b] P.sent
    have tw : TI (n + 1) ((P.t i).wait b) := by
      obtain ⟨me, ep, ti, si, nx, wa, qu, wl, ex, ek, er⟩ := t.mono (m := n + 1) (by omega)
      have nx' := t.nx
      refine ⟨me, ep, ti, si, ⟨nx.1, ?_⟩, wa, fun x hx => ?_, ?_, ex, ek, er⟩
      · simp only [Tn.wait, List.length_append, List.length_singleton]
        omega
      · simp only [Tn.wait, List.mem_append, List.mem_singleton] at hx
        rcases hx with hx | rfl
        · exact qu x hx
        · omega
      · simp only [Tn.room, hu, if_true, Tn.waiting] at c3
        simp only [Tn.wait, List.length_append, List.length_singleton]
        omega
    have Lw : Loc (aAdd k [b] P.sent) P.told i ((P.t i).wait b) := by
      obtain ⟨lat, snd, rcv, dow, you, out⟩ := L
      refine ⟨fun x y hl => ?_, fun _ => ?_, fun _ => ?_, fun h => ?_, you, fun b' hb' => (out b' hb').gr gr⟩
      · have ne : ((x, y, ((1 - i : Nat) : Int)) : Ky) ≠ k := by
          intro e
          rw [hk] at e
          have ex : x = (P.t i).me := congrArg (fun k : Ky => k.1) e
          have ey : y = (P.t i).you := congrArg (fun k : Ky => k.2.1) e
          unfold later at hl
          simp only [Tn.wait] at hl
          rw [ex, ey, hu] at hl
          simp at hl
        rw [aGet_aAdd_ne _ ne]
        exact lat x y hl
      · obtain ⟨a1, a2, a3⟩ := snd hu
        show Sn ((P.t i).wait b) (aGet ((P.t i).me, (P.t i).you, ((1 - i : Nat) : Int)) (aAdd k [b] P.sent))
        rw [← hk, aGet_aAdd]
        rw [← hk] at a1 a2 a3
        have nx' := t.nx
        refine ⟨?_, ?_, fun s hs => ?_⟩
        · simp only [Tn.wait, List.length_append, List.length_singleton]
          omega
        · simp only [Tn.wait]
          rw [List.drop_append_of_le_length (by omega), ← a2]
        · have := a3 s hs
          exact ⟨this.1, this.2.1, pre_get (List.prefix_append _ _) this.2.2⟩
      · obtain ⟨a1, a2⟩ := rcv hu
        exact ⟨a1, fun e he => pre_get (gr _) (a2 e he)⟩
      · have : (P.t i).up = false := h
        rw [hu] at this; cases this
    have Ls : Loc (aAdd k [b] P.sent) P.told i ((P.t i).send b).1 := by
      rw [eS]
      exact Loc.slideGo (n := n + 1) (by omega) _ _ rfl hu tw Lw
    refine ⟨fun j hj => ?_, fun j hj b' hb' => (s.bag j hj b' hb').gr gr, fun k' => (s.pre k').trans (gr k')⟩
    by_cases e : j = i
    · subst e
      show Loc (aAdd k [b] P.sent) P.told j (set1 P.t j ((P.t j).send b).1 j)
      rw [set1usame]
      exact Ls
    · show Loc (aAdd k [b] P.sent) P.told j (set1 P.t i ((P.t i).send b).1 j)
      rw [set1une _ _ e]
      refine (s.loc j hj).gr gr (fun x y => aGet_aAdd_ne _ (fun q => ?_) _) (fun _ _ => rfl)
      rw [hk] at q
      have : ((1 - j : Nat) : Int) = ((1 - i : Nat) : Int) := congrArg (fun k : Ky => k.2.2) q
      omega
  · rw [if_neg c]
    have eS : ((P.t i).send b).1 = P.t i := by
      unfold Tn.send at c ⊢
      split
      · rfl
      · split
        · rfl
        · split
          · rfl
          · rename_i c1 c2 c3
            rw [if_neg c1, if_neg c2, if_neg c3] at c
            exact absurd rfl c
    rw [eS]
    exact s.turn hi L

theorem Sem.take {P : Pr} (s : Sem P) {n : Nat} (I : PrI n P) (hn : n < 10000000) {i m : Nat} (hi : i < 2) (hm : m < (P.bag i).length) (stay : Bool) : Sem (P.take i m stay).1 ∧ (P.take i m stay).2 = true := by
  have hgd : (P.bag i).getD m [] = (P.bag i)[m] := by simp [List.getD, List.getElem?_eq_getElem hm]
  have hd := s.bag i hi _ (List.getElem_mem hm)
  have tk := take1ut P i m stay
  have ts := take1usent P i m stay
  have tt := take1utold P i m stay
  obtain ⟨h0, L, pre⟩ := (s.loc i hi).take (I.t i hi) (by omega) hd s.pre
  have s1 : Sem (P.take1 i m stay) := by
    cases stay
    · exact s.lose _ _
    · exact s
  unfold Pr.take
  rw [hgd]
  have sm : Sem ((P.take1 i m stay).got i (P.bag i)[m]) := by
    unfold Pr.got
    rw [tk, tt]
    refine ⟨fun j hj => ?_, s1.bag, by rw [ts]; exact pre⟩
    dsimp only
    rw [ts]
    by_cases e : j = i
    · subst e
      rw [set1usame]
      exact L
    · rw [set1une _ _ e]
      refine (s.loc j hj).gr (fun _ => List.prefix_rfl) (fun _ _ => rfl) (fun x y => aGet_aAdd_ne _ (fun q => ?_) _)
      have : (j : Int) = (i : Int) := congrArg (fun k : Ky => k.2.2) q
      omega
  refine ⟨sm, ?_⟩
  have pk := sm.pre ((((P.take1 i m stay).got i (P.bag i)[m]).t i).you, (((P.take1 i m stay).got i (P.bag i)[m]).t i).me, (i : Int))
  unfold Pr.fine
  rw [h0]
  simp only [decide_true, Bool.true_and, Bool.and_eq_true, decide_eq_true_eq]
  exact ⟨pk.length_le, List.prefix_iff_eq_take.1 pk⟩

theorem Sem.act {P : Pr} (s : Sem P) {n : Nat} (I : PrI n P) (hn : n < 10000000) (A : Ac1) : Sem (P.act A).1 ∧ (P.act A).2 = true := by
  have hi := A.i_lt
  have L := s.loc A.i hi
  have t := I.t A.i hi
  unfold Pr.act
  split
  · exact ⟨s.sends I hn hi A.b, rfl⟩
  · split
    · exact ⟨s.turn hi (L.tick t hn), rfl⟩
    · split
      · exact ⟨s.turn hi (L.fresh (by omega)), rfl⟩
      · split
        · exact ⟨s.turn hi (L.hint t (by omega) _), rfl⟩
        · split
          · exact ⟨s, rfl⟩
          · rename_i h0
            split
            · exact ⟨s.lose _ _, rfl⟩
            · have hb := (I.bag A.i hi).1
              obtain ⟨n0, n1⟩ := atOf_lt A.at' (n := (P.bag A.i).length) (by omega) (by omega)
              exact s.take I hn hi (by unfold Ac1.n; omega) A.stay

theorem Sem.outS {P : Pr} (s : Sem P) {i : Nat} (hi : i < 2) : Sem (P.outS i) := by
  refine ⟨fun j hj => ?_, fun j hj b hb => ?_, s.pre⟩
  · by_cases e : j = i
    · subst e
      show Loc P.sent P.told j (set1 P.t j { P.t j with out := [] } j)
      rw [set1usame]
      obtain ⟨lat, snd, rcv, dow, you, out⟩ := s.loc j hj
      exact ⟨lat, fun hu => by obtain ⟨a, b, c⟩ := snd hu; exact ⟨a, b, c⟩, fun hu => by obtain ⟨a, b⟩ := rcv hu; exact ⟨a, b⟩, dow, you, by simp⟩
    · show Loc P.sent P.told j (set1 P.t i { P.t i with out := [] } j)
      rw [set1une _ _ e]
      exact s.loc j hj
  · by_cases e : j = 1 - i
    · subst e
      have hb' : b ∈ set1 P.bag (1 - i) (addTo (P.bag (1 - i)) (P.t i).out) (1 - i) := hb
      rw [set1usame] at hb'
      rcases addTo_mem _ _ hb' with g | g
      · exact s.bag _ hj b g
      · exact (s.loc i hi).out b g
    · have hb' : b ∈ set1 P.bag (1 - i) (addTo (P.bag (1 - i)) (P.t i).out) j := hb
      rw [set1une _ _ e] at hb'
      exact s.bag j hj b hb'
theorem Sem.outs {P : Pr} (s : Sem P) : Sem P.outs := (s.outS (i := 0) (by omega)).outS (i := 1) (by omega)
theorem Sem.does {P : Pr} (s : Sem P) {n : Nat} (I : PrI n P) (hn : n < 10000000) (A : Ac1) : Sem (P.does A).1 ∧ (P.does A).2 = true := by
  obtain ⟨s1, e⟩ := s.act I hn A
  exact ⟨s1.outs, e⟩
theorem Sem.begun : Sem Pr.begun := by
  have L : ∀ m i, Loc [] [] i (Tn.fresh m) := fun m i => ⟨fun x y _ => ⟨rfl, rfl⟩, fun h => by simp [Tn.fresh] at h, fun h => by simp [Tn.fresh] at h, fun _ => ⟨rfl, rfl⟩, by simp [Tn.fresh], by simp [Tn.fresh]⟩
  refine ⟨fun i hi => ?_, fun i hi b hb => by simp [Pr.begun] at hb, fun k => List.prefix_rfl⟩
  rcases lt2 hi with rfl | rfl
  · exact L 1000 0
  · exact L 5000 1
theorem run_S (l : List Ac1) : ∀ {P : Pr} {n : Nat}, Sem P → PrI n P → n + l.length < 10000000 → Sem (P.run l) := by
  induction l with
  | nil => intro P n s _ _; exact s
  | cons A l ih =>
    intro P n s I h
    simp only [List.length_cons] at h
    exact ih (s.does I (by omega) A).1 (I.does A) (by omega)

end Go.Am

/- TunnelSame. -/
namespace Go.Am
open Go.Proofs
variable {G : Nat → V} {h h' h'' : Heap} {fz : List Nat} {a : Tm} {K : Tm → Heap → Prop}

theorem nibs_gt : Nibs Gt := rfl

theorem mem_of_pair {p : Nat} {P : Pr} {S : List Nat} (q : PairR h p P S) : ∃ ta bv ms mt Sp, PairP h p P ta bv ms mt Sp ∧ ∀ k, k ∈ S ↔ k ∈ allS Sp := by
  obtain ⟨ta, bv, ms, mt, Sp, q, hS⟩ := q
  exact ⟨ta, bv, ms, mt, Sp, q, fun k => (hS k).trans mem_allS.symm⟩
theorem PairP.r {p : Nat} {P : Pr} {ta : Nat → Nat} {bv : Nat → V} {ms mt : Nat} {Sp : Nat → List Nat} (q : PairP h p P ta bv ms mt Sp) : PairR h p P (allS Sp) := ⟨ta, bv, ms, mt, Sp, q, fun _ => mem_allS⟩
theorem Up.eqv {S S' T T' : List Nat} (u : Up h h' S T) (h1 : ∀ k, k ∈ S' ↔ k ∈ S) (h2 : ∀ k, k ∈ T' ↔ k ∈ T) : Up h h' S' T' := by
  refine ⟨u.fr.mono (fun k hk => (h1 k).2 hk), fun k hk => ?_⟩
  rcases u.sub k ((h2 k).1 hk) with g | g
  · exact .inl ((h1 k).2 g)
  · exact .inr g

theorem doesR (hG : Nibs G) (A : Ac1) {n p : Nat} {P : Pr} {S : List Nat} (q : PairR h p P S) (I : PrI n P) (hn : n ≤ 20000) (R : V → Heap → Prop)
    (hR : ∀ h' S', PairR h' p (P.does A).1 S' → Up h h' S S' → R (.bool (P.does A).2) h') : Calls0 Tryd.prog G 15 [.ptr p 0 0, A.v] h R := by
  obtain ⟨ta, bv, ms, mt, Sp, q, hS⟩ := mem_of_pair q
  refine does_spec hG A q (I.dob hn) (I.act A).ou R ?_
  intro h1 ta1 bv1 Sp1 q1 u1
  exact hR h1 (allS Sp1) q1.r (u1.eqv hS (fun _ => Iff.rfl))
theorem begunR (R : V → Heap → Prop) (hR : ∀ p h' S', PairR h' p Pr.begun S' → Fr [] h h' → (∀ k ∈ S', h.next ≤ k) → R (.ptr p 0 0) h') : Calls0 Tryd.prog G 14 [] h R := by
  refine begun_spec R ?_
  intro p h1 ta bv ms mt Sp q f s
  exact hR p h1 (allS Sp) q.r f s

/-- Apart. -/
def Ap (S T : List Nat) : Prop := ∀ k ∈ S, k ∉ T
theorem Ap.symm {S T : List Nat} (a : Ap S T) : Ap T S := fun k hk hm => a k hm hk
theorem Ap.up {S T S' : List Nat} (a : Ap S T) (u : Up h h' S S') (hT : ∀ k ∈ T, k < h.next) : Ap S' T := fun k hk hm => by
  rcases u.sub k hk with g | g
  · exact a k g hm
  · have := hT k hm; omega

def zeroA : List V := [.int .i64 0, .int .i64 0, .int .i64 0, .nil, .bool false]

set_option maxHeartbeats 1000000 in
/-- Both pairs are held against one another. -/
theorem same_end {n p q : Nat} {P : Pr} {S T : List Nat} (x : PairR h p P S) (y : PairR h q P T) (I : PrI n P) (a5 : a 5 = .ptr p 0 0) (a6 : a 6 = .ptr q 0 0) (R : V → Heap → Prop) (hR : R (.bool true) h) :
    wpC (Calls0 Tryd.prog Gt) Gt [] fn6u11 (postF R [.tmp 4]) a h := by
  obtain ⟨ta, bv, ms, mt, Sp, x, _⟩ := x
  obtain ⟨tb, bw, ns, nt, Sq, y, _⟩ := y
  simp only [go_sem, true_and, and_true, ↓reduceIte, Nat.reduceEqDiff, Nat.reduceAdd, Bool.not_true, Bool.not_false, List.getElem?_cons_zero, List.getElem?_cons_succ, decide_true, decide_false, Bool.false_eq_true, fn6u11]
  refine w_loop (fun a h' n => n ≤ 2 ∧ h = h' ∧ a 5 = .ptr p 0 0 ∧ a 6 = .ptr q 0 0 ∧ a 49 = .int .i64 ((2 - n : Nat) : Int)) 2 ?_ ?_
  · refine ⟨Nat.le_refl _, rfl, ?_, ?_, ?_⟩
    · simp only [go_sem, true_and, and_true, ↓reduceIte, Nat.reduceEqDiff, Nat.reduceAdd, Bool.not_true, Bool.not_false, List.getElem?_cons_zero, List.getElem?_cons_succ, decide_true, decide_false, Bool.false_eq_true, a5]
    · simp only [go_sem, true_and, and_true, ↓reduceIte, Nat.reduceEqDiff, Nat.reduceAdd, Bool.not_true, Bool.not_false, List.getElem?_cons_zero, List.getElem?_cons_succ, decide_true, decide_false, Bool.false_eq_true, a6]
    · simp only [go_sem, true_and, and_true, ↓reduceIte, Nat.reduceEqDiff, Nat.reduceAdd, Bool.not_true, Bool.not_false, List.getElem?_cons_zero, List.getElem?_cons_succ, decide_true, decide_false, Bool.false_eq_true]
      rfl
  · rintro a h1 m ⟨hm, rfl, b5, b6, b49⟩
    cases m with
    | zero =>
      have ci : ¬ ((2 - 0 : Nat) : Int) < 2 := by omega
      simp only [go_sem, true_and, and_true, ↓reduceIte, Nat.reduceEqDiff, Nat.reduceAdd, Bool.not_true, Bool.not_false, List.getElem?_cons_zero, List.getElem?_cons_succ, decide_true, decide_false, Bool.false_eq_true, fn6u9, b49, ci, fn6u10]
      refine awake_spec _ ?_
      simp only [go_sem, true_and, and_true, ↓reduceIte, Nat.reduceEqDiff, Nat.reduceAdd, Bool.not_true, Bool.not_false, List.getElem?_cons_zero, List.getElem?_cons_succ, decide_true, decide_false, Bool.false_eq_true]
      exact hR
    | succ m =>
      obtain ⟨i, hi⟩ : ∃ i, 2 - (m + 1) = i := ⟨_, rfl⟩
      rw [hi] at b49
      have hi2 : i < 2 := by omega
      have ci : (i : Int) < 2 := by omega
      have wi : IntKind.i64.wrap ((i : Int) + 1) = ((2 - m : Nat) : Int) := by rw [wrap64 (by omega) (by omega)]; omega
      have lt1 : loadV h false 1 (.ptr p 0 i) = some (.ptr (ta i) 0 0) := ld0 x.obj (prC_tun hi2)
      have lt2 : loadV h false 1 (.ptr q 0 i) = some (.ptr (tb i) 0 0) := ld0 y.obj (prC_tun hi2)
      have lb1 : loadV h false 1 (.ptr p 0 (2 + i)) = some (bv i) := ld0 x.obj (prC_bag hi2)
      have lb2 : loadV h false 1 (.ptr q 0 (2 + i)) = some (bw i) := ld0 y.obj (prC_bag hi2)
      have hb := (I.bag i hi2).1
      have ht := I.t i hi2
      have hw := ht.wl
      obtain ⟨wv, qv, ev, ov, So, Sm, pT, _⟩ := x.tun i hi2
      obtain ⟨wv', qv', ev', ov', So', Sm', pT', _⟩ := y.tun i hi2
      simp only [go_sem, true_and, and_true, ↓reduceIte, Nat.reduceEqDiff, Nat.reduceAdd, Bool.not_true, Bool.not_false, List.getElem?_cons_zero, List.getElem?_cons_succ, decide_true, decide_false, Bool.false_eq_true, fn6u9, fn6u8, b49, ci, b5, b6, idx_nat, hi2, Nat.mul_one, Nat.zero_add, lt1, lt2, lb1, lb2]
      refine rows_spec _ _ (P.bag i) (P.bag i) ((x.bag i hi2).rs (lb_cells1 _)) ((y.bag i hi2).rs (lb_cells1 _)) (by omega) (by omega) _ ?_
      simp only [go_sem, true_and, and_true, ↓reduceIte, Nat.reduceEqDiff, Nat.reduceAdd, Bool.not_true, Bool.not_false, List.getElem?_cons_zero, List.getElem?_cons_succ, decide_true, decide_false, Bool.false_eq_true]
      refine me_spec pT ht.me.1 _ ?_
      simp only [go_sem, true_and, and_true, ↓reduceIte, Nat.reduceEqDiff, Nat.reduceAdd, Bool.not_true, Bool.not_false, List.getElem?_cons_zero, List.getElem?_cons_succ, decide_true, decide_false, Bool.false_eq_true]
      refine me_spec pT' ht.me.1 _ ?_
      simp only [go_sem, true_and, and_true, ↓reduceIte, Nat.reduceEqDiff, Nat.reduceAdd, Bool.not_true, Bool.not_false, List.getElem?_cons_zero, List.getElem?_cons_succ, decide_true, decide_false, Bool.false_eq_true, bne_self_eq_false]
      refine you_spec pT ht.me.1 _ ?_
      simp only [go_sem, true_and, and_true, ↓reduceIte, Nat.reduceEqDiff, Nat.reduceAdd, Bool.not_true, Bool.not_false, List.getElem?_cons_zero, List.getElem?_cons_succ, decide_true, decide_false, Bool.false_eq_true]
      refine you_spec pT' ht.me.1 _ ?_
      simp only [go_sem, true_and, and_true, ↓reduceIte, Nat.reduceEqDiff, Nat.reduceAdd, Bool.not_true, Bool.not_false, List.getElem?_cons_zero, List.getElem?_cons_succ, decide_true, decide_false, Bool.false_eq_true, bne_self_eq_false]
      refine up_spec pT ht.me.1 _ ?_
      simp only [go_sem, true_and, and_true, ↓reduceIte, Nat.reduceEqDiff, Nat.reduceAdd, Bool.not_true, Bool.not_false, List.getElem?_cons_zero, List.getElem?_cons_succ, decide_true, decide_false, Bool.false_eq_true]
      refine up_spec pT' ht.me.1 _ ?_
      simp only [go_sem, true_and, and_true, ↓reduceIte, Nat.reduceEqDiff, Nat.reduceAdd, Bool.not_true, Bool.not_false, List.getElem?_cons_zero, List.getElem?_cons_succ, decide_true, decide_false, Bool.false_eq_true, bne_self_eq_false, BEq.rfl]
      refine epoch_spec pT ht.me.1 _ ?_
      simp only [go_sem, true_and, and_true, ↓reduceIte, Nat.reduceEqDiff, Nat.reduceAdd, Bool.not_true, Bool.not_false, List.getElem?_cons_zero, List.getElem?_cons_succ, decide_true, decide_false, Bool.false_eq_true]
      refine epoch_spec pT' ht.me.1 _ ?_
      simp only [go_sem, true_and, and_true, ↓reduceIte, Nat.reduceEqDiff, Nat.reduceAdd, Bool.not_true, Bool.not_false, List.getElem?_cons_zero, List.getElem?_cons_succ, decide_true, decide_false, Bool.false_eq_true, bne_self_eq_false]
      refine waiting_spec pT ht.me.1 (by unfold Tn.waiting; omega) _ ?_
      simp only [go_sem, true_and, and_true, ↓reduceIte, Nat.reduceEqDiff, Nat.reduceAdd, Bool.not_true, Bool.not_false, List.getElem?_cons_zero, List.getElem?_cons_succ, decide_true, decide_false, Bool.false_eq_true]
      refine waiting_spec pT' ht.me.1 (by unfold Tn.waiting; omega) _ ?_
      simp only [go_sem, true_and, and_true, ↓reduceIte, Nat.reduceEqDiff, Nat.reduceAdd, Bool.not_true, Bool.not_false, List.getElem?_cons_zero, List.getElem?_cons_succ, decide_true, decide_false, Bool.false_eq_true, bne_self_eq_false, fn6u6, fn6u7, b49, wi]
      exact ⟨m, by omega, by omega, b5, b6, rfl⟩

set_option maxHeartbeats 1000000 in
theorem same_law (l o : List Ac1) (R : V → Heap → Prop) (hR : ∀ h', Fr [] h h' → R (.bool true) h') : Calls0 Tryd.prog Gt 6 [acts l, acts o] h R := by
  refine fn_walk mixed fn6uis [] rfl ?_
  simp only [go_sem, true_and, and_true, ↓reduceIte, Nat.reduceEqDiff, Nat.reduceAdd, Bool.not_true, Bool.not_false, List.getElem?_cons_zero, List.getElem?_cons_succ, decide_true, decide_false, Bool.false_eq_true, fn6]
  refine few_spec l _ ?_
  intro b1 hb1
  cases b1 with
  | false =>
    simp only [go_sem, true_and, and_true, ↓reduceIte, Nat.reduceEqDiff, Nat.reduceAdd, Bool.not_true, Bool.not_false, List.getElem?_cons_zero, List.getElem?_cons_succ, decide_true, decide_false, Bool.false_eq_true, fn6u1]
    refine awake_spec _ ?_
    simp only [go_sem, true_and, and_true, ↓reduceIte, Nat.reduceEqDiff, Nat.reduceAdd, Bool.not_true, Bool.not_false, List.getElem?_cons_zero, List.getElem?_cons_succ, decide_true, decide_false, Bool.false_eq_true]
    exact hR h (Fr.refl _ _)
  | true =>
  simp only [go_sem, true_and, and_true, ↓reduceIte, Nat.reduceEqDiff, Nat.reduceAdd, Bool.not_true, Bool.not_false, List.getElem?_cons_zero, List.getElem?_cons_succ, decide_true, decide_false, Bool.false_eq_true]
  refine few_spec o _ ?_
  intro b2 hb2
  cases b2 with
  | false =>
    simp only [go_sem, true_and, and_true, ↓reduceIte, Nat.reduceEqDiff, Nat.reduceAdd, Bool.not_true, Bool.not_false, List.getElem?_cons_zero, List.getElem?_cons_succ, decide_true, decide_false, Bool.false_eq_true, fn6u1]
    refine awake_spec _ ?_
    simp only [go_sem, true_and, and_true, ↓reduceIte, Nat.reduceEqDiff, Nat.reduceAdd, Bool.not_true, Bool.not_false, List.getElem?_cons_zero, List.getElem?_cons_succ, decide_true, decide_false, Bool.false_eq_true]
    exact hR h (Fr.refl _ _)
  | true =>
  have hl := hb1 rfl
  have ho := hb2 rfl
  have ll := acts_len l
  have lo := acts_len o
  simp only [go_sem, true_and, and_true, ↓reduceIte, Nat.reduceEqDiff, Nat.reduceAdd, Bool.not_true, Bool.not_false, List.getElem?_cons_zero, List.getElem?_cons_succ, decide_true, decide_false, Bool.false_eq_true, fn6u1, fn6u12]
  refine begunR _ ?_
  intro p h1 Sp q1 f1 s1
  simp only [go_sem, true_and, and_true, ↓reduceIte, Nat.reduceEqDiff, Nat.reduceAdd, Bool.not_true, Bool.not_false, List.getElem?_cons_zero, List.getElem?_cons_succ, decide_true, decide_false, Bool.false_eq_true]
  refine begunR _ ?_
  intro q h2 Sq r2 f2 s2
  simp only [go_sem, true_and, and_true, ↓reduceIte, Nat.reduceEqDiff, Nat.reduceAdd, Bool.not_true, Bool.not_false, List.getElem?_cons_zero, List.getElem?_cons_succ, decide_true, decide_false, Bool.false_eq_true]
  refine begunR _ ?_
  intro x h3 Sx x3 f3 s3
  have q3 := (q1.fr f2 (fun k hk => by simp)).fr f3 (fun k hk => by simp)
  have r3 := r2.fr f3 (fun k hk => by simp)
  have a12 : Ap Sp Sq := fun k hk hm => by have := q1.lt k hk; have := s2 k hm; omega
  have a13 : Ap Sp Sx := fun k hk hm => by have := q1.lt k hk; have := s3 k hm; have := f2.next; omega
  have a23 : Ap Sq Sx := fun k hk hm => by have := r2.lt k hk; have := s3 k hm; omega
  have f03 : Fr [] h h3 := (f1.trans f2 (by simp)).trans f3 (by simp)
  have m1 : ∀ k ∈ Sp, h.next ≤ k := s1
  have m2 : ∀ k ∈ Sq, h.next ≤ k := fun k hk => by have := s2 k hk; have := f1.next; omega
  have m3 : ∀ k ∈ Sx, h.next ≤ k := fun k hk => by have := s3 k hk; have := f1.next; have := f2.next; omega
  simp only [go_sem, true_and, and_true, ↓reduceIte, Nat.reduceEqDiff, Nat.reduceAdd, Bool.not_true, Bool.not_false, List.getElem?_cons_zero, List.getElem?_cons_succ, decide_true, decide_false, Bool.false_eq_true, ll]
  refine w_loop (fun a h' n => n ≤ l.length ∧ a 0 = acts l ∧ a 1 = acts o ∧ a 5 = .ptr p 0 0 ∧ a 6 = .ptr q 0 0 ∧ a 7 = .ptr x 0 0 ∧ a 25 = acts l ∧ a 26 = .int .i64 l.length ∧ a 27 = .int .i64 ((l.length - n : Nat) : Int) ∧
    ∃ X Sp Sq Sx, PairR h' p (Pr.begun.run (l.take (l.length - n))) Sp ∧ PairR h' q (Pr.begun.run (l.take (l.length - n))) Sq ∧ PairR h' x X Sx ∧ PrI (l.length - n) X ∧ Ap Sp Sq ∧ Ap Sp Sx ∧ Ap Sq Sx ∧ (∀ k ∈ Sp, h.next ≤ k) ∧ (∀ k ∈ Sq, h.next ≤ k) ∧ (∀ k ∈ Sx, h.next ≤ k) ∧ Fr [] h h') l.length ?_ ?_
  · refine ⟨Nat.le_refl _, ?_, ?_, ?_, ?_, ?_, ?_, ?_, ?_, Pr.begun, Sp, Sq, Sx, ?_, ?_, x3, ?_, a12, a13, a23, m1, m2, m3, f03⟩
    · simp only [go_sem, true_and, and_true, ↓reduceIte, Nat.reduceEqDiff, Nat.reduceAdd, Bool.not_true, Bool.not_false, List.getElem?_cons_zero, List.getElem?_cons_succ, decide_true, decide_false, Bool.false_eq_true]
    · simp only [go_sem, true_and, and_true, ↓reduceIte, Nat.reduceEqDiff, Nat.reduceAdd, Bool.not_true, Bool.not_false, List.getElem?_cons_zero, List.getElem?_cons_succ, decide_true, decide_false, Bool.false_eq_true]
    · simp only [go_sem, true_and, and_true, ↓reduceIte, Nat.reduceEqDiff, Nat.reduceAdd, Bool.not_true, Bool.not_false, List.getElem?_cons_zero, List.getElem?_cons_succ, decide_true, decide_false, Bool.false_eq_true]
    · simp only [go_sem, true_and, and_true, ↓reduceIte, Nat.reduceEqDiff, Nat.reduceAdd, Bool.not_true, Bool.not_false, List.getElem?_cons_zero, List.getElem?_cons_succ, decide_true, decide_false, Bool.false_eq_true]
    · simp only [go_sem, true_and, and_true, ↓reduceIte, Nat.reduceEqDiff, Nat.reduceAdd, Bool.not_true, Bool.not_false, List.getElem?_cons_zero, List.getElem?_cons_succ, decide_true, decide_false, Bool.false_eq_true]
    · simp only [go_sem, true_and, and_true, ↓reduceIte, Nat.reduceEqDiff, Nat.reduceAdd, Bool.not_true, Bool.not_false, List.getElem?_cons_zero, List.getElem?_cons_succ, decide_true, decide_false, Bool.false_eq_true]
    · simp only [go_sem, true_and, and_true, ↓reduceIte, Nat.reduceEqDiff, Nat.reduceAdd, Bool.not_true, Bool.not_false, List.getElem?_cons_zero, List.getElem?_cons_succ, decide_true, decide_false, Bool.false_eq_true]
    · simp only [go_sem, true_and, and_true, ↓reduceIte, Nat.reduceEqDiff, Nat.reduceAdd, Bool.not_true, Bool.not_false, List.getElem?_cons_zero, List.getElem?_cons_succ, decide_true, decide_false, Bool.false_eq_true, Nat.sub_self]
      rfl
    · rw [Nat.sub_self]; exact q3
    · rw [Nat.sub_self]; exact r3
    · rw [Nat.sub_self]; exact PrI.begun
  · clear q3 r3 x3 q1 r2 a12 a13 a23 m1 m2 m3 s1 s2 s3 f03 f1 f2 f3
    clear Sp Sq Sx h1 h2 h3
    rintro a h1 n ⟨hn, a0, a1, a5, a6, a7, a25, a26, a27, X, Sp, Sq, Sx, q1, r1, x1, IX, a12, a13, a23, m1, m2, m3, f1⟩
    cases n with
    | zero =>
      have ci : ¬ ((l.length - 0 : Nat) : Int) < l.length := by omega
      rw [Nat.sub_zero, List.take_length] at q1 r1
      simp only [go_sem, true_and, and_true, ↓reduceIte, Nat.reduceEqDiff, Nat.reduceAdd, Bool.not_true, Bool.not_false, List.getElem?_cons_zero, List.getElem?_cons_succ, decide_true, decide_false, Bool.false_eq_true, fn6u5, a26, a27, ci]
      have I := run_I PrI.begun l
      refine same_end q1 r1 I ?_ ?_ R (hR h1 f1)
      · simp only [go_sem, true_and, and_true, ↓reduceIte, Nat.reduceEqDiff, Nat.reduceAdd, Bool.not_true, Bool.not_false, List.getElem?_cons_zero, List.getElem?_cons_succ, decide_true, decide_false, Bool.false_eq_true, a5]
      · simp only [go_sem, true_and, and_true, ↓reduceIte, Nat.reduceEqDiff, Nat.reduceAdd, Bool.not_true, Bool.not_false, List.getElem?_cons_zero, List.getElem?_cons_succ, decide_true, decide_false, Bool.false_eq_true, a6]
    | succ n =>
      obtain ⟨i, hi⟩ : ∃ i, l.length - (n + 1) = i := ⟨_, rfl⟩
      rw [hi] at a27 q1 r1 IX
      have hlt : i < l.length := by omega
      have ci : (i : Int) < l.length := by omega
      have wi : IntKind.i64.wrap ((i : Int) + 1) = ((l.length - n : Nat) : Int) := by rw [wrap64 (by omega) (by omega)]; omega
      have tk : l.take (l.length - n) = l.take i ++ [l[i]] := by
        rw [show l.length - n = i + 1 from by omega, List.take_add_one, List.getElem?_eq_getElem hlt]; rfl
      have II : PrI i (Pr.begun.run (l.take i)) := by
        have := run_I PrI.begun (l.take i)
        rw [List.length_take, show 0 + min i l.length = i from by omega] at this
        exact this
      simp only [go_sem, true_and, and_true, ↓reduceIte, Nat.reduceEqDiff, Nat.reduceAdd, Bool.not_true, Bool.not_false, List.getElem?_cons_zero, List.getElem?_cons_succ, decide_true, decide_false, Bool.false_eq_true, fn6u5, fn6u4, a26, a27, ci, a25]
      refine go_iaddr (k := .i64) (n := i) (e := l[i].v) (v := acts l) (xs := l.map Ac1.v) (acts_rs l) ?_ ?_ ?_ ?_
      · simp only [go_sem, true_and, and_true, ↓reduceIte, Nat.reduceEqDiff, Nat.reduceAdd, Bool.not_true, Bool.not_false, List.getElem?_cons_zero, List.getElem?_cons_succ, decide_true, decide_false, Bool.false_eq_true, a25]
      · simp only [go_sem, true_and, and_true, ↓reduceIte, Nat.reduceEqDiff, Nat.reduceAdd, Bool.not_true, Bool.not_false, List.getElem?_cons_zero, List.getElem?_cons_succ, decide_true, decide_false, Bool.false_eq_true, a27]
      · simp [hlt]
      intro p1 e1
      have lp1 : loadV h1 true 5 p1 = some l[i].v := e1.loadA rfl
      simp only [go_sem, true_and, and_true, ↓reduceIte, Nat.reduceEqDiff, Nat.reduceAdd, Bool.not_true, Bool.not_false, List.getElem?_cons_zero, List.getElem?_cons_succ, decide_true, decide_false, Bool.false_eq_true, lp1]
      refine go_box (v := .agg zeroA) rfl rfl rfl ?_
      intro h2 f2 e2
      simp only [go_sem, true_and, and_true, ↓reduceIte, Nat.reduceEqDiff, Nat.reduceAdd, Bool.not_true, Bool.not_false, List.getElem?_cons_zero, List.getElem?_cons_succ, decide_true, decide_false, Bool.false_eq_true, a27]
      refine go_storeA (ds := [.int .i64 l[i].op, .int .i64 l[i].side, .int .i64 l[i].at', lb l[i].b, .bool l[i].stay]) e2 ?_ ?_ rfl rfl ?_ ?_
      · simp only [go_sem, true_and, and_true, ↓reduceIte, Nat.reduceEqDiff, Nat.reduceAdd, Bool.not_true, Bool.not_false, List.getElem?_cons_zero, List.getElem?_cons_succ, decide_true, decide_false, Bool.false_eq_true]
      · simp only [go_sem, true_and, and_true, ↓reduceIte, Nat.reduceEqDiff, Nat.reduceAdd, Bool.not_true, Bool.not_false, List.getElem?_cons_zero, List.getElem?_cons_succ, decide_true, decide_false, Bool.false_eq_true]
        rfl
      · simp [V.one, lb]
      intro h3 f3 n3 e3
      have f13 : Fr [] h1 h3 := f2.trans f3 (fun k hk => by simp at hk; exact .inr (by omega))
      have q3 := q1.fr f13 (by simp)
      have r3 := r1.fr f13 (by simp)
      have x3 := x1.fr f13 (by simp)
      have hx1 := x1.lt
      by_cases co : i < o.length
      · have co' : (i : Int) < o.length := by omega
        simp only [go_sem, true_and, and_true, ↓reduceIte, Nat.reduceEqDiff, Nat.reduceAdd, Bool.not_true, Bool.not_false, List.getElem?_cons_zero, List.getElem?_cons_succ, decide_true, decide_false, Bool.false_eq_true, a1, a27, lo, co', a7]
        refine go_iaddr (k := .i64) (n := i) (e := o[i].v) (v := acts o) (xs := o.map Ac1.v) (acts_rs o) ?_ ?_ ?_ ?_
        · simp only [go_sem, true_and, and_true, ↓reduceIte, Nat.reduceEqDiff, Nat.reduceAdd, Bool.not_true, Bool.not_false, List.getElem?_cons_zero, List.getElem?_cons_succ, decide_true, decide_false, Bool.false_eq_true, a1]
        · simp only [go_sem, true_and, and_true, ↓reduceIte, Nat.reduceEqDiff, Nat.reduceAdd, Bool.not_true, Bool.not_false, List.getElem?_cons_zero, List.getElem?_cons_succ, decide_true, decide_false, Bool.false_eq_true]
        · simp [co]
        intro p4 e4'
        have lp4 : loadV h3 true 5 p4 = some o[i].v := e4'.loadA rfl
        simp only [go_sem, true_and, and_true, ↓reduceIte, Nat.reduceEqDiff, Nat.reduceAdd, Bool.not_true, Bool.not_false, List.getElem?_cons_zero, List.getElem?_cons_succ, decide_true, decide_false, Bool.false_eq_true, lp4, a7]
        refine doesR nibs_gt o[i] x3 IX (by omega) _ ?_
        intro h4 SxN x4 u4
        have q4 := q3.fr u4.fr a13
        have r4 := r3.fr u4.fr a23
        have a13' : Ap Sp SxN := (a13.symm.up u4 q3.lt).symm
        have a23' : Ap Sq SxN := (a23.symm.up u4 r3.lt).symm
        have e4 := u4.fr.at e3 (fun hm => by have := x1.lt _ hm; omega)
        have l5 : loadV h4 true 5 (.ptr h1.next 0 0) = some l[i].v := ldA e4 rfl
        have f4 : Fr Sx h1 h4 := (f13.mono (by simp)).trans u4.fr (fun k hk => .inl hk)
        have m3' : ∀ k ∈ SxN, h.next ≤ k := fun k hk => by
          rcases u4.sub k hk with g | g
          · exact m3 k g
          · have := f13.next; have := f1.next; omega
        have IN := IX.does o[i]
        generalize (X.does o[i]).1 = XN at *
        simp only [go_sem, true_and, and_true, ↓reduceIte, Nat.reduceEqDiff, Nat.reduceAdd, Bool.not_true, Bool.not_false, List.getElem?_cons_zero, List.getElem?_cons_succ, decide_true, decide_false, Bool.false_eq_true, fn6u2]
        simp only [go_sem, true_and, and_true, ↓reduceIte, Nat.reduceEqDiff, Nat.reduceAdd, Bool.not_true, Bool.not_false, List.getElem?_cons_zero, List.getElem?_cons_succ, decide_true, decide_false, Bool.false_eq_true, a5, l5]
        refine doesR nibs_gt l[i] q4 II (by omega) _ ?_
        intro h5 Sp5 q5 u5
        have r5 := r4.fr u5.fr a12.symm
        have x5 := x4.fr u5.fr a13'.symm
        have a12' : Ap Sp5 Sq := a12.up u5 r4.lt
        have a13'' : Ap Sp5 SxN := a13'.up u5 x4.lt
        have l5' : loadV h5 true 5 (.ptr h1.next 0 0) = some l[i].v := ldA (u5.fr.at e4 (fun hm => by have := q1.lt _ hm; omega)) rfl
        simp only [go_sem, true_and, and_true, ↓reduceIte, Nat.reduceEqDiff, Nat.reduceAdd, Bool.not_true, Bool.not_false, List.getElem?_cons_zero, List.getElem?_cons_succ, decide_true, decide_false, Bool.false_eq_true, a6, l5']
        refine doesR nibs_gt l[i] r5 II (by omega) _ ?_
        intro h6 Sq6 r6 u6
        have q6 := q5.fr u6.fr a12'
        have x6 := x5.fr u6.fr a23'.symm
        have a12'' : Ap Sp5 Sq6 := (a12'.symm.up u6 q5.lt).symm
        have a23'' : Ap Sq6 SxN := a23'.up u6 x5.lt
        simp only [go_sem, true_and, and_true, ↓reduceIte, Nat.reduceEqDiff, Nat.reduceAdd, Bool.not_true, Bool.not_false, List.getElem?_cons_zero, List.getElem?_cons_succ, decide_true, decide_false, Bool.false_eq_true, fn6u3, a27, wi]
        refine ⟨n, by omega, by omega, a0, a1, a5, a6, a7, a25, a26, rfl, XN, Sp5, Sq6, SxN, ?_, ?_, x6, ?_, a12'', a13'', a23'', ?_, ?_, ?_, ?_⟩
        · rw [tk, run_snoc]; exact q6
        · rw [tk, run_snoc]; exact r6
        · rw [show l.length - n = i + 1 from by omega]; exact IN
        · intro k hk
          rcases u5.sub k hk with g | g
          · exact m1 k g
          · have := f4.next; have := f1.next; omega
        · intro k hk
          rcases u6.sub k hk with g | g
          · exact m2 k g
          · have := f4.next; have := f1.next; have := u5.fr.next; omega
        · exact m3'
        · exact ((f1.trans f4 (fun k hk => .inr (m3 k hk))).trans u5.fr (fun k hk => .inr (m1 k hk))).trans u6.fr (fun k hk => .inr (m2 k hk))
      · have co' : ¬ (i : Int) < o.length := by omega
        simp only [go_sem, true_and, and_true, ↓reduceIte, Nat.reduceEqDiff, Nat.reduceAdd, Bool.not_true, Bool.not_false, List.getElem?_cons_zero, List.getElem?_cons_succ, decide_true, decide_false, Bool.false_eq_true, a1, a27, lo, co']
        have q4 := q3
        have r4 := r3
        have x4 := x3
        have a13' := a13
        have a23' := a23
        have e4 := e3
        have l5 : loadV h3 true 5 (.ptr h1.next 0 0) = some l[i].v := ldA e4 rfl
        have f4 : Fr Sx h1 h3 := f13.mono (by simp)
        have m3' := m3
        have IN := IX.mono (m := i + 1) (by omega)
        simp only [go_sem, true_and, and_true, ↓reduceIte, Nat.reduceEqDiff, Nat.reduceAdd, Bool.not_true, Bool.not_false, List.getElem?_cons_zero, List.getElem?_cons_succ, decide_true, decide_false, Bool.false_eq_true, fn6u2]
        simp only [go_sem, true_and, and_true, ↓reduceIte, Nat.reduceEqDiff, Nat.reduceAdd, Bool.not_true, Bool.not_false, List.getElem?_cons_zero, List.getElem?_cons_succ, decide_true, decide_false, Bool.false_eq_true, a5, l5]
        refine doesR nibs_gt l[i] q4 II (by omega) _ ?_
        intro h5 Sp5 q5 u5
        have r5 := r4.fr u5.fr a12.symm
        have x5 := x4.fr u5.fr a13'.symm
        have a12' : Ap Sp5 Sq := a12.up u5 r4.lt
        have a13'' : Ap Sp5 Sx := a13'.up u5 x4.lt
        have l5' : loadV h5 true 5 (.ptr h1.next 0 0) = some l[i].v := ldA (u5.fr.at e4 (fun hm => by have := q1.lt _ hm; omega)) rfl
        simp only [go_sem, true_and, and_true, ↓reduceIte, Nat.reduceEqDiff, Nat.reduceAdd, Bool.not_true, Bool.not_false, List.getElem?_cons_zero, List.getElem?_cons_succ, decide_true, decide_false, Bool.false_eq_true, a6, l5']
        refine doesR nibs_gt l[i] r5 II (by omega) _ ?_
        intro h6 Sq6 r6 u6
        have q6 := q5.fr u6.fr a12'
        have x6 := x5.fr u6.fr a23'.symm
        have a12'' : Ap Sp5 Sq6 := (a12'.symm.up u6 q5.lt).symm
        have a23'' : Ap Sq6 Sx := a23'.up u6 x5.lt
        simp only [go_sem, true_and, and_true, ↓reduceIte, Nat.reduceEqDiff, Nat.reduceAdd, Bool.not_true, Bool.not_false, List.getElem?_cons_zero, List.getElem?_cons_succ, decide_true, decide_false, Bool.false_eq_true, fn6u3, a27, wi]
        refine ⟨n, by omega, by omega, a0, a1, a5, a6, a7, a25, a26, rfl, X, Sp5, Sq6, Sx, ?_, ?_, x6, ?_, a12'', a13'', a23'', ?_, ?_, ?_, ?_⟩
        · rw [tk, run_snoc]; exact q6
        · rw [tk, run_snoc]; exact r6
        · rw [show l.length - n = i + 1 from by omega]; exact IN
        · intro k hk
          rcases u5.sub k hk with g | g
          · exact m1 k g
          · have := f4.next; have := f1.next; omega
        · intro k hk
          rcases u6.sub k hk with g | g
          · exact m2 k g
          · have := f4.next; have := f1.next; have := u5.fr.next; omega
        · exact m3'
        · exact ((f1.trans f4 (fun k hk => .inr (m3 k hk))).trans u5.fr (fun k hk => .inr (m1 k hk))).trans u6.fr (fun k hk => .inr (m2 k hk))

end Go.Am

/- TunnelOnce. -/
namespace Go.Am
open Go.Proofs
variable {G : Nat → V} {h h' h'' : Heap} {fz : List Nat} {a : Tm} {K : Tm → Heap → Prop}

theorem run_take {l : List Ac1} {i n : Nat} (hn : n + 1 ≤ l.length) (hi : l.length - (n + 1) = i) (hlt : i < l.length) : l.take (l.length - n) = l.take i ++ [l[i]] := by
  rw [show l.length - n = i + 1 from by omega, List.take_add_one, List.getElem?_eq_getElem hlt]; rfl
theorem run_PI (l : List Ac1) {i : Nat} (hi : i ≤ l.length) : PrI i (Pr.begun.run (l.take i)) := by
  have := run_I PrI.begun (l.take i)
  rw [List.length_take, show 0 + min i l.length = i from by omega] at this
  exact this
theorem run_PS (l : List Ac1) (hl : l.length ≤ 400) (i : Nat) : Sem (Pr.begun.run (l.take i)) :=
  run_S (l.take i) Sem.begun PrI.begun (by rw [List.length_take]; omega)

set_option maxHeartbeats 1000000 in
theorem once_law (l : List Ac1) (R : V → Heap → Prop) (hR : ∀ h', R (.bool true) h') : Calls0 Tryd.prog Gt 3 [acts l] h R := by
  refine fn_walk mixed fn3uis [] rfl ?_
  simp only [go_sem, true_and, and_true, ↓reduceIte, Nat.reduceEqDiff, Nat.reduceAdd, Bool.not_true, Bool.not_false, List.getElem?_cons_zero, List.getElem?_cons_succ, decide_true, decide_false, Bool.false_eq_true, fn3]
  refine few_spec l _ ?_
  intro b1 hb1
  cases b1 with
  | false =>
    simp only [go_sem, true_and, and_true, ↓reduceIte, Nat.reduceEqDiff, Nat.reduceAdd, Bool.not_true, Bool.not_false, List.getElem?_cons_zero, List.getElem?_cons_succ, decide_true, decide_false, Bool.false_eq_true]
    refine awake_spec _ ?_
    simp only [go_sem, true_and, and_true, ↓reduceIte, Nat.reduceEqDiff, Nat.reduceAdd, Bool.not_true, Bool.not_false, List.getElem?_cons_zero, List.getElem?_cons_succ, decide_true, decide_false, Bool.false_eq_true]
    exact hR h
  | true =>
  have hl := hb1 rfl
  have ll := acts_len l
  simp only [go_sem, true_and, and_true, ↓reduceIte, Nat.reduceEqDiff, Nat.reduceAdd, Bool.not_true, Bool.not_false, List.getElem?_cons_zero, List.getElem?_cons_succ, decide_true, decide_false, Bool.false_eq_true, fn3u5]
  refine begunR _ ?_
  intro p h1 Sp q1 f1 s1
  simp only [go_sem, true_and, and_true, ↓reduceIte, Nat.reduceEqDiff, Nat.reduceAdd, Bool.not_true, Bool.not_false, List.getElem?_cons_zero, List.getElem?_cons_succ, decide_true, decide_false, Bool.false_eq_true, ll]
  refine w_loop (fun a h' n => n ≤ l.length ∧ a 3 = .ptr p 0 0 ∧ a 11 = acts l ∧ a 12 = .int .i64 l.length ∧ a 13 = .int .i64 ((l.length - n : Nat) : Int) ∧
    ∃ Sp, PairR h' p (Pr.begun.run (l.take (l.length - n))) Sp) l.length ?_ ?_
  · refine ⟨Nat.le_refl _, ?_, ?_, ?_, ?_, Sp, ?_⟩
    · simp only [go_sem, true_and, and_true, ↓reduceIte, Nat.reduceEqDiff, Nat.reduceAdd, Bool.not_true, Bool.not_false, List.getElem?_cons_zero, List.getElem?_cons_succ, decide_true, decide_false, Bool.false_eq_true]
    · simp only [go_sem, true_and, and_true, ↓reduceIte, Nat.reduceEqDiff, Nat.reduceAdd, Bool.not_true, Bool.not_false, List.getElem?_cons_zero, List.getElem?_cons_succ, decide_true, decide_false, Bool.false_eq_true]
    · simp only [go_sem, true_and, and_true, ↓reduceIte, Nat.reduceEqDiff, Nat.reduceAdd, Bool.not_true, Bool.not_false, List.getElem?_cons_zero, List.getElem?_cons_succ, decide_true, decide_false, Bool.false_eq_true]
    · simp only [go_sem, true_and, and_true, ↓reduceIte, Nat.reduceEqDiff, Nat.reduceAdd, Bool.not_true, Bool.not_false, List.getElem?_cons_zero, List.getElem?_cons_succ, decide_true, decide_false, Bool.false_eq_true, Nat.sub_self]
      rfl
    · rw [Nat.sub_self]; exact q1
  · clear q1 f1 s1
    clear Sp h1
    rintro a h1 n ⟨hn, a3, a11, a12, a13, Sp, q1⟩
    cases n with
    | zero =>
      have ci : ¬ ((l.length - 0 : Nat) : Int) < l.length := by omega
      simp only [go_sem, true_and, and_true, ↓reduceIte, Nat.reduceEqDiff, Nat.reduceAdd, Bool.not_true, Bool.not_false, List.getElem?_cons_zero, List.getElem?_cons_succ, decide_true, decide_false, Bool.false_eq_true, fn3u3, a12, a13, ci, fn3u4]
      refine awake_spec _ ?_
      simp only [go_sem, true_and, and_true, ↓reduceIte, Nat.reduceEqDiff, Nat.reduceAdd, Bool.not_true, Bool.not_false, List.getElem?_cons_zero, List.getElem?_cons_succ, decide_true, decide_false, Bool.false_eq_true]
      exact hR h1
    | succ n =>
      obtain ⟨i, hi⟩ : ∃ i, l.length - (n + 1) = i := ⟨_, rfl⟩
      rw [hi] at a13 q1
      have hlt : i < l.length := by omega
      have ci : (i : Int) < l.length := by omega
      have wi : IntKind.i64.wrap ((i : Int) + 1) = ((l.length - n : Nat) : Int) := by rw [wrap64 (by omega) (by omega)]; omega
      have tk := run_take hn hi hlt
      have II := run_PI l (i := i) (by omega)
      have ok := ((run_PS l hl i).does II (by omega) l[i]).2
      simp only [go_sem, true_and, and_true, ↓reduceIte, Nat.reduceEqDiff, Nat.reduceAdd, Bool.not_true, Bool.not_false, List.getElem?_cons_zero, List.getElem?_cons_succ, decide_true, decide_false, Bool.false_eq_true, fn3u3, fn3u2, a12, a13, ci, a11]
      refine go_iaddr (k := .i64) (n := i) (e := l[i].v) (v := acts l) (xs := l.map Ac1.v) (acts_rs l) ?_ ?_ ?_ ?_
      · simp only [go_sem, true_and, and_true, ↓reduceIte, Nat.reduceEqDiff, Nat.reduceAdd, Bool.not_true, Bool.not_false, List.getElem?_cons_zero, List.getElem?_cons_succ, decide_true, decide_false, Bool.false_eq_true, a11]
      · simp only [go_sem, true_and, and_true, ↓reduceIte, Nat.reduceEqDiff, Nat.reduceAdd, Bool.not_true, Bool.not_false, List.getElem?_cons_zero, List.getElem?_cons_succ, decide_true, decide_false, Bool.false_eq_true, a13]
      · simp [hlt]
      intro p1 e1
      have lp1 : loadV h1 true 5 p1 = some l[i].v := e1.loadA rfl
      simp only [go_sem, true_and, and_true, ↓reduceIte, Nat.reduceEqDiff, Nat.reduceAdd, Bool.not_true, Bool.not_false, List.getElem?_cons_zero, List.getElem?_cons_succ, decide_true, decide_false, Bool.false_eq_true, lp1]
      refine go_box (v := .agg zeroA) rfl rfl rfl ?_
      intro h2 f2 e2
      simp only [go_sem, true_and, and_true, ↓reduceIte, Nat.reduceEqDiff, Nat.reduceAdd, Bool.not_true, Bool.not_false, List.getElem?_cons_zero, List.getElem?_cons_succ, decide_true, decide_false, Bool.false_eq_true]
      refine go_storeA (ds := [.int .i64 l[i].op, .int .i64 l[i].side, .int .i64 l[i].at', lb l[i].b, .bool l[i].stay]) e2 ?_ ?_ rfl rfl ?_ ?_
      · simp only [go_sem, true_and, and_true, ↓reduceIte, Nat.reduceEqDiff, Nat.reduceAdd, Bool.not_true, Bool.not_false, List.getElem?_cons_zero, List.getElem?_cons_succ, decide_true, decide_false, Bool.false_eq_true]
      · simp only [go_sem, true_and, and_true, ↓reduceIte, Nat.reduceEqDiff, Nat.reduceAdd, Bool.not_true, Bool.not_false, List.getElem?_cons_zero, List.getElem?_cons_succ, decide_true, decide_false, Bool.false_eq_true]
        rfl
      · simp [V.one, lb]
      intro h3 f3 n3 e3
      have f13 : Fr [] h1 h3 := f2.trans f3 (fun k hk => by simp at hk; exact .inr (by omega))
      have q3 := q1.fr f13 (by simp)
      have l5 : loadV h3 true 5 (.ptr h1.next 0 0) = some l[i].v := ldA e3 rfl
      simp only [go_sem, true_and, and_true, ↓reduceIte, Nat.reduceEqDiff, Nat.reduceAdd, Bool.not_true, Bool.not_false, List.getElem?_cons_zero, List.getElem?_cons_succ, decide_true, decide_false, Bool.false_eq_true, a3, l5]
      refine doesR nibs_gt l[i] q3 II (by omega) _ ?_
      intro h4 Sp4 q4 u4
      simp only [go_sem, true_and, and_true, ↓reduceIte, Nat.reduceEqDiff, Nat.reduceAdd, Bool.not_true, Bool.not_false, List.getElem?_cons_zero, List.getElem?_cons_succ, decide_true, decide_false, Bool.false_eq_true, ok, fn3u1, a13, wi]
      exact ⟨n, by omega, by omega, a3, a11, a12, rfl, Sp4, by rw [tk, run_snoc]; exact q4⟩

end Go.Am

/- TunnelBounds. -/
namespace Go.Am
open Go.Proofs
variable {G : Nat → V} {h h' h'' : Heap} {fz : List Nat} {a : Tm} {K : Tm → Heap → Prop}

@[go_sem] theorem s_idxA {len sz : Nat} {x i : Opd} : stepI G a h (.idxA false len sz x i) = (match idx (i.ev G a), x.ev G a with
    | some n, .agg cs => if n < len then (cs[n * sz]?).map fun v => (v, h) else none
    | _, _ => none) := by
  simp only [stepI, Bool.false_eq_true, if_false]
  rfl

theorem two_tun {ta : Nat → Nat} {i : Nat} (hi : i < 2) : [V.ptr (ta 0) 0 0, V.ptr (ta 1) 0 0][i]? = some (.ptr (ta i) 0 0) := by
  rcases lt2 hi with rfl | rfl <;> rfl
theorem PairP.load2 {p : Nat} {P : Pr} {ta : Nat → Nat} {bv : Nat → V} {ms mt : Nat} {Sp : Nat → List Nat} (q : PairP h p P ta bv ms mt Sp) : loadV h true 2 (.ptr p 0 0) = some (.agg [.ptr (ta 0) 0 0, .ptr (ta 1) 0 0]) := by
  simp [loadV, q.obj, V.cells, prC]

/-- The bounds hold of a tunnel. -/
theorem bound_one {T : Tn} {n : Nat} (t : TI n T) : T.waiting ≤ 64 := by have := t.wl; unfold Tn.waiting; omega

set_option maxHeartbeats 1000000 in
theorem bounds_law (l : List Ac1) (R : V → Heap → Prop) (hR : ∀ h', R (.bool true) h') : Calls0 Tryd.prog Gt 4 [acts l] h R := by
  refine fn_walk mixed fn4uis [] rfl ?_
  simp only [go_sem, true_and, and_true, ↓reduceIte, Nat.reduceEqDiff, Nat.reduceAdd, Bool.not_true, Bool.not_false, List.getElem?_cons_zero, List.getElem?_cons_succ, decide_true, decide_false, Bool.false_eq_true, fn4]
  refine few_spec l _ ?_
  intro b1 hb1
  cases b1 with
  | false =>
    simp only [go_sem, true_and, and_true, ↓reduceIte, Nat.reduceEqDiff, Nat.reduceAdd, Bool.not_true, Bool.not_false, List.getElem?_cons_zero, List.getElem?_cons_succ, decide_true, decide_false, Bool.false_eq_true]
    refine awake_spec _ ?_
    simp only [go_sem, true_and, and_true, ↓reduceIte, Nat.reduceEqDiff, Nat.reduceAdd, Bool.not_true, Bool.not_false, List.getElem?_cons_zero, List.getElem?_cons_succ, decide_true, decide_false, Bool.false_eq_true]
    exact hR h
  | true =>
  have hl := hb1 rfl
  have ll := acts_len l
  simp only [go_sem, true_and, and_true, ↓reduceIte, Nat.reduceEqDiff, Nat.reduceAdd, Bool.not_true, Bool.not_false, List.getElem?_cons_zero, List.getElem?_cons_succ, decide_true, decide_false, Bool.false_eq_true, fn4u10]
  refine begunR _ ?_
  intro p h1 Sp q1 f1 s1
  simp only [go_sem, true_and, and_true, ↓reduceIte, Nat.reduceEqDiff, Nat.reduceAdd, Bool.not_true, Bool.not_false, List.getElem?_cons_zero, List.getElem?_cons_succ, decide_true, decide_false, Bool.false_eq_true, ll]
  refine w_loop (fun a h' n => n ≤ l.length ∧ a 3 = .ptr p 0 0 ∧ a 13 = acts l ∧ a 14 = .int .i64 l.length ∧ a 15 = .int .i64 ((l.length - n : Nat) : Int) ∧
    ∃ Sp, PairR h' p (Pr.begun.run (l.take (l.length - n))) Sp) l.length ?_ ?_
  · refine ⟨Nat.le_refl _, ?_, ?_, ?_, ?_, Sp, ?_⟩
    · simp only [go_sem, true_and, and_true, ↓reduceIte, Nat.reduceEqDiff, Nat.reduceAdd, Bool.not_true, Bool.not_false, List.getElem?_cons_zero, List.getElem?_cons_succ, decide_true, decide_false, Bool.false_eq_true]
    · simp only [go_sem, true_and, and_true, ↓reduceIte, Nat.reduceEqDiff, Nat.reduceAdd, Bool.not_true, Bool.not_false, List.getElem?_cons_zero, List.getElem?_cons_succ, decide_true, decide_false, Bool.false_eq_true]
    · simp only [go_sem, true_and, and_true, ↓reduceIte, Nat.reduceEqDiff, Nat.reduceAdd, Bool.not_true, Bool.not_false, List.getElem?_cons_zero, List.getElem?_cons_succ, decide_true, decide_false, Bool.false_eq_true]
    · simp only [go_sem, true_and, and_true, ↓reduceIte, Nat.reduceEqDiff, Nat.reduceAdd, Bool.not_true, Bool.not_false, List.getElem?_cons_zero, List.getElem?_cons_succ, decide_true, decide_false, Bool.false_eq_true, Nat.sub_self]
      rfl
    · rw [Nat.sub_self]; exact q1
  · clear q1 f1 s1
    clear Sp h1
    rintro a h1 n ⟨hn, a3, a13, a14, a15, Sp, q1⟩
    cases n with
    | zero =>
      have ci : ¬ ((l.length - 0 : Nat) : Int) < l.length := by omega
      simp only [go_sem, true_and, and_true, ↓reduceIte, Nat.reduceEqDiff, Nat.reduceAdd, Bool.not_true, Bool.not_false, List.getElem?_cons_zero, List.getElem?_cons_succ, decide_true, decide_false, Bool.false_eq_true, fn4u8, a14, a15, ci, fn4u9]
      refine awake_spec _ ?_
      simp only [go_sem, true_and, and_true, ↓reduceIte, Nat.reduceEqDiff, Nat.reduceAdd, Bool.not_true, Bool.not_false, List.getElem?_cons_zero, List.getElem?_cons_succ, decide_true, decide_false, Bool.false_eq_true]
      exact hR h1
    | succ n =>
      obtain ⟨i, hi⟩ : ∃ i, l.length - (n + 1) = i := ⟨_, rfl⟩
      rw [hi] at a15 q1
      have hlt : i < l.length := by omega
      have ci : (i : Int) < l.length := by omega
      have wi : IntKind.i64.wrap ((i : Int) + 1) = ((l.length - n : Nat) : Int) := by rw [wrap64 (by omega) (by omega)]; omega
      have tk := run_take hn hi hlt
      have II := run_PI l (i := i) (by omega)
      have Sd := (run_PS l hl i).does II (by omega) l[i]
      have ok := Sd.2
      have I2 := II.does l[i]
      have Sm2 := Sd.1
      simp only [go_sem, true_and, and_true, ↓reduceIte, Nat.reduceEqDiff, Nat.reduceAdd, Bool.not_true, Bool.not_false, List.getElem?_cons_zero, List.getElem?_cons_succ, decide_true, decide_false, Bool.false_eq_true, fn4u8, fn4u7, a14, a15, ci, a13]
      refine go_iaddr (k := .i64) (n := i) (e := l[i].v) (v := acts l) (xs := l.map Ac1.v) (acts_rs l) ?_ ?_ ?_ ?_
      · simp only [go_sem, true_and, and_true, ↓reduceIte, Nat.reduceEqDiff, Nat.reduceAdd, Bool.not_true, Bool.not_false, List.getElem?_cons_zero, List.getElem?_cons_succ, decide_true, decide_false, Bool.false_eq_true, a13]
      · simp only [go_sem, true_and, and_true, ↓reduceIte, Nat.reduceEqDiff, Nat.reduceAdd, Bool.not_true, Bool.not_false, List.getElem?_cons_zero, List.getElem?_cons_succ, decide_true, decide_false, Bool.false_eq_true, a15]
      · simp [hlt]
      intro p1 e1
      have lp1 : loadV h1 true 5 p1 = some l[i].v := e1.loadA rfl
      simp only [go_sem, true_and, and_true, ↓reduceIte, Nat.reduceEqDiff, Nat.reduceAdd, Bool.not_true, Bool.not_false, List.getElem?_cons_zero, List.getElem?_cons_succ, decide_true, decide_false, Bool.false_eq_true, lp1]
      refine go_box (v := .agg zeroA) rfl rfl rfl ?_
      intro h2 f2 e2
      simp only [go_sem, true_and, and_true, ↓reduceIte, Nat.reduceEqDiff, Nat.reduceAdd, Bool.not_true, Bool.not_false, List.getElem?_cons_zero, List.getElem?_cons_succ, decide_true, decide_false, Bool.false_eq_true]
      refine go_storeA (ds := [.int .i64 l[i].op, .int .i64 l[i].side, .int .i64 l[i].at', lb l[i].b, .bool l[i].stay]) e2 ?_ ?_ rfl rfl ?_ ?_
      · simp only [go_sem, true_and, and_true, ↓reduceIte, Nat.reduceEqDiff, Nat.reduceAdd, Bool.not_true, Bool.not_false, List.getElem?_cons_zero, List.getElem?_cons_succ, decide_true, decide_false, Bool.false_eq_true]
      · simp only [go_sem, true_and, and_true, ↓reduceIte, Nat.reduceEqDiff, Nat.reduceAdd, Bool.not_true, Bool.not_false, List.getElem?_cons_zero, List.getElem?_cons_succ, decide_true, decide_false, Bool.false_eq_true]
        rfl
      · simp [V.one, lb]
      intro h3 f3 n3 e3
      have f13 : Fr [] h1 h3 := f2.trans f3 (fun k hk => by simp at hk; exact .inr (by omega))
      have q3 := q1.fr f13 (by simp)
      have l5 : loadV h3 true 5 (.ptr h1.next 0 0) = some l[i].v := ldA e3 rfl
      simp only [go_sem, true_and, and_true, ↓reduceIte, Nat.reduceEqDiff, Nat.reduceAdd, Bool.not_true, Bool.not_false, List.getElem?_cons_zero, List.getElem?_cons_succ, decide_true, decide_false, Bool.false_eq_true, a3, l5]
      refine doesR nibs_gt l[i] q3 II (by omega) _ ?_
      intro h4 Sp4 q4 u4
      have q4' := q4
      rw [← run_snoc, ← tk] at q4'
      rw [← run_snoc, ← tk] at I2 Sm2
      have qq := q4'
      obtain ⟨ta, bv, ms, mt, Sq, x, _⟩ := qq
      have l2 := x.load2
      generalize hP : Pr.begun.run (l.take (l.length - n)) = P2 at *
      simp only [go_sem, true_and, and_true, ↓reduceIte, Nat.reduceEqDiff, Nat.reduceAdd, Bool.not_true, Bool.not_false, List.getElem?_cons_zero, List.getElem?_cons_succ, decide_true, decide_false, Bool.false_eq_true, ok, fn4u5, a3, l2]
      refine w_loop (fun a' h' m => m ≤ 2 ∧ h4 = h' ∧ a' 3 = .ptr p 0 0 ∧ a' 13 = acts l ∧ a' 14 = .int .i64 l.length ∧ a' 15 = .int .i64 (i : Int) ∧ a' 26 = .agg [.ptr (ta 0) 0 0, .ptr (ta 1) 0 0] ∧ a' 27 = .int .i64 ((2 - m : Nat) : Int)) 2 ?_ ?_
      · refine ⟨Nat.le_refl _, rfl, ?_, ?_, ?_, ?_, ?_, ?_⟩
        · simp only [go_sem, true_and, and_true, ↓reduceIte, Nat.reduceEqDiff, Nat.reduceAdd, Bool.not_true, Bool.not_false, List.getElem?_cons_zero, List.getElem?_cons_succ, decide_true, decide_false, Bool.false_eq_true, a3]
        · simp only [go_sem, true_and, and_true, ↓reduceIte, Nat.reduceEqDiff, Nat.reduceAdd, Bool.not_true, Bool.not_false, List.getElem?_cons_zero, List.getElem?_cons_succ, decide_true, decide_false, Bool.false_eq_true, a13]
        · simp only [go_sem, true_and, and_true, ↓reduceIte, Nat.reduceEqDiff, Nat.reduceAdd, Bool.not_true, Bool.not_false, List.getElem?_cons_zero, List.getElem?_cons_succ, decide_true, decide_false, Bool.false_eq_true, a14]
        · simp only [go_sem, true_and, and_true, ↓reduceIte, Nat.reduceEqDiff, Nat.reduceAdd, Bool.not_true, Bool.not_false, List.getElem?_cons_zero, List.getElem?_cons_succ, decide_true, decide_false, Bool.false_eq_true, a15]
        · simp only [go_sem, true_and, and_true, ↓reduceIte, Nat.reduceEqDiff, Nat.reduceAdd, Bool.not_true, Bool.not_false, List.getElem?_cons_zero, List.getElem?_cons_succ, decide_true, decide_false, Bool.false_eq_true]
        · simp only [go_sem, true_and, and_true, ↓reduceIte, Nat.reduceEqDiff, Nat.reduceAdd, Bool.not_true, Bool.not_false, List.getElem?_cons_zero, List.getElem?_cons_succ, decide_true, decide_false, Bool.false_eq_true]
          rfl
      · rintro a' h5 m ⟨hm, rfl, b3, b13, b14, b15, b26, b27⟩
        cases m with
        | zero =>
          have cj : ¬ ((2 - 0 : Nat) : Int) < 2 := by omega
          simp only [go_sem, true_and, and_true, ↓reduceIte, Nat.reduceEqDiff, Nat.reduceAdd, Bool.not_true, Bool.not_false, List.getElem?_cons_zero, List.getElem?_cons_succ, decide_true, decide_false, Bool.false_eq_true, fn4u4, b27, cj, fn4u6, b15, wi]
          refine ⟨n, by omega, by omega, b3, b13, b14, rfl, Sp4, ?_⟩
          rw [hP]
          exact q4'
        | succ m =>
          obtain ⟨j, hj⟩ : ∃ j, 2 - (m + 1) = j := ⟨_, rfl⟩
          rw [hj] at b27
          have hj2 : j < 2 := by omega
          have cj : (j : Int) < 2 := by omega
          have wj : IntKind.i64.wrap ((j : Int) + 1) = ((2 - m : Nat) : Int) := by rw [wrap64 (by omega) (by omega)]; omega
          have ht := I2.t j hj2
          have hw := bound_one ht
          have hw' : ¬ ((P2.t j).waiting : Int) > 64 := by omega
          obtain ⟨wv, qv, ev, ov, So, Sm, pT, _⟩ := x.tun j hj2
          simp only [go_sem, true_and, and_true, ↓reduceIte, Nat.reduceEqDiff, Nat.reduceAdd, Bool.not_true, Bool.not_false, List.getElem?_cons_zero, List.getElem?_cons_succ, decide_true, decide_false, Bool.false_eq_true, fn4u4, fn4u3, b27, cj, b26, idx_nat, hj2, Nat.mul_one, two_tun hj2]
          refine waiting_spec pT ht.me.1 (by omega) _ ?_
          simp only [go_sem, true_and, and_true, ↓reduceIte, Nat.reduceEqDiff, Nat.reduceAdd, Bool.not_true, Bool.not_false, List.getElem?_cons_zero, List.getElem?_cons_succ, decide_true, decide_false, Bool.false_eq_true, hw']
          refine up_spec pT ht.me.1 _ ?_
          cases hu : (P2.t j).up with
          | true =>
            have er : (P2.t j).room = 64 - ((P2.t j).waiting : Int) := by unfold Tn.room; rw [hu]; rfl
            have ew : IntKind.i64.wrap (64 - ((P2.t j).waiting : Int)) = 64 - ((P2.t j).waiting : Int) := wrap64 (by omega) (by omega)
            simp only [go_sem, true_and, and_true, ↓reduceIte, Nat.reduceEqDiff, Nat.reduceAdd, Bool.not_true, Bool.not_false, List.getElem?_cons_zero, List.getElem?_cons_succ, decide_true, decide_false, Bool.false_eq_true]
            refine room_spec pT ht.me.1 (by omega) _ ?_
            simp only [go_sem, true_and, and_true, ↓reduceIte, Nat.reduceEqDiff, Nat.reduceAdd, Bool.not_true, Bool.not_false, List.getElem?_cons_zero, List.getElem?_cons_succ, decide_true, decide_false, Bool.false_eq_true]
            refine waiting_spec pT ht.me.1 (by omega) _ ?_
            simp only [go_sem, true_and, and_true, ↓reduceIte, Nat.reduceEqDiff, Nat.reduceAdd, Bool.not_true, Bool.not_false, List.getElem?_cons_zero, List.getElem?_cons_succ, decide_true, decide_false, Bool.false_eq_true, er, ew, bne_self_eq_false]
            refine up_spec pT ht.me.1 _ ?_
            simp only [go_sem, true_and, and_true, ↓reduceIte, Nat.reduceEqDiff, Nat.reduceAdd, Bool.not_true, Bool.not_false, List.getElem?_cons_zero, List.getElem?_cons_succ, decide_true, decide_false, Bool.false_eq_true, hu, fn4u1, fn4u2, b27, wj]
            exact ⟨m, by omega, by omega, b3, b13, b14, b15, b26, rfl⟩
          | false =>
            have er : (P2.t j).room = 0 := by unfold Tn.room; rw [hu]; rfl
            have ew : ((P2.t j).waiting : Int) = 0 := by
              have := (Sm2.loc j hj2).dow hu
              unfold Tn.waiting
              rw [this.1, this.2]
              rfl
            have e0 : IntKind.i64.wrap (0 + 0) = 0 := by decide
            simp only [go_sem, true_and, and_true, ↓reduceIte, Nat.reduceEqDiff, Nat.reduceAdd, Bool.not_true, Bool.not_false, List.getElem?_cons_zero, List.getElem?_cons_succ, decide_true, decide_false, Bool.false_eq_true]
            refine up_spec pT ht.me.1 _ ?_
            simp only [go_sem, true_and, and_true, ↓reduceIte, Nat.reduceEqDiff, Nat.reduceAdd, Bool.not_true, Bool.not_false, List.getElem?_cons_zero, List.getElem?_cons_succ, decide_true, decide_false, Bool.false_eq_true, hu]
            refine room_spec pT ht.me.1 (by omega) _ ?_
            simp only [go_sem, true_and, and_true, ↓reduceIte, Nat.reduceEqDiff, Nat.reduceAdd, Bool.not_true, Bool.not_false, List.getElem?_cons_zero, List.getElem?_cons_succ, decide_true, decide_false, Bool.false_eq_true]
            refine waiting_spec pT ht.me.1 (by omega) _ ?_
            simp only [go_sem, true_and, and_true, ↓reduceIte, Nat.reduceEqDiff, Nat.reduceAdd, Bool.not_true, Bool.not_false, List.getElem?_cons_zero, List.getElem?_cons_succ, decide_true, decide_false, Bool.false_eq_true, er, ew, e0, bne_self_eq_false, fn4u1, fn4u2, b27, wj]
            exact ⟨m, by omega, by omega, b3, b13, b14, b15, b26, rfl⟩

end Go.Am

/- From a world of Go's into the abstract memory: the first world, arguments. -/
namespace Go.Am
open Go.Proofs Go.ChangeShapes Go.WideShapes Go.ChangeAt Go.RowKit

/-- All that lies at the start is nobody's to write. -/
def ren0 (W : World) : Ren := ⟨fun _ => none, fun _ => none, fun b => b < W.heap.size⟩

theorem rel0 {G : Nat → V} {W : World} (hg : ∀ g, RV (ren0 W) W (G g) (.pointer (some ⟨g, 0, none⟩))) : Rel G (ren0 W) noHeap W :=
  ⟨fun o ty sz xs e => (by cases e), fun m es cl e => (by cases e), fun o o' ty sz xs ty' sz' xs' r s s' e => (by cases e), fun o o' es cl es' cl' r e => (by cases e), fun _ _ => ⟨rfl, rfl⟩, hg, fun _ h => h⟩

theorem entry {P : Program} {G : Nat → V} {W : World} {f : FuncId} {args : List V} {vs : Array Value} {b : Bool} (hg : ∀ g, RV (ren0 W) W (G g) (.pointer (some ⟨g, 0, none⟩))) (hv : Vs (ren0 W) W args vs)
    (c : Calls0 P G f args noHeap (fun v _ => v = .bool b)) : Calls P f vs W fun e W' => e = .returned (.bool b) ∧ Below W.heap.size W W' := by
  refine (c.2 (ren0 W) W vs (rel0 hg) hv).mono (fun e W' q => ?_)
  cases e with
  | returned v =>
    obtain ⟨ρ', h', x, rfl, st, _, r⟩ := q
    cases r
    exact ⟨rfl, st.os, st.tape, st.output, st.size, fun k hk => st.keep k hk⟩
  | _ => exact q.elim

theorem cell_lt {W : World} {a : Addr} {v : Value} (h : W.cell? a = some v) : a.block < W.heap.size := by
  cases hb : W.heap[a.block]? with
  | none => simp [World.cell?, hb] at h
  | some o => exact (Array.getElem?_eq_some_iff.1 hb).1
theorem add_none (b off j : Nat) : (⟨b, off, none⟩ : Addr).add j = ⟨b, off + j, none⟩ := by
  by_cases h : j = 0
  · subst h; simp [Addr.add]
  · simp [Addr.add, h]

/-! ### arguments -/
section
variable {H : Type} {enc : TypeId × Value → H} {W : World} {sp : Nat → Bool} {held : Bool} {n : Nat} {x : DataW H × List MemPlace}

theorem b8uof {z : Int} (h : (Lit.int .u8 z).wf = true) : V.int .u8 z = b8 (UInt8.ofNat z.toNat) := by
  simp only [Lit.wf, Bool.and_eq_true, decide_eq_true_eq] at h
  obtain ⟨h1, h2⟩ := h
  have h3 : z ≤ 255 := h2
  have h4 : 0 ≤ z := h1
  show V.int .u8 z = V.int .u8 ((UInt8.ofNat z.toNat).toNat : Int)
  congr 1
  simp only [UInt8.toNat_ofNat']
  omega

theorem bytes_in {t e : TypeId} (ht : Tryd.prog.underlying t = some (.slice e)) (he : Tryd.prog.underlying e = some (.int .u8)) (hc : Tryd.prog.cellsOf e = 1) {v : Value} (h : DataW.trod enc Tryd.prog W 0 sp held n t [v] = some x) : ∃ bs, RV (ren0 W) W (lb bs) v := by
  rcases open_ints ht he hc h with ⟨hcs, _⟩ | ⟨a, len, cap, zs, hcs, _, hl, _, hz, _, hcell, hwf⟩
  · obtain rfl := (List.cons.inj hcs).1
    exact ⟨[], .lst [] 1 none 0 (fun _ => Go.undef) (Nat.le_refl _) (by simp) (fun h => absurd h (by simp)) (by simp)⟩
  · obtain rfl := (List.cons.inj hcs).1
    obtain ⟨b, off, spot⟩ := a
    have hzl : len ≤ zs.length := by rw [hz]; split <;> omega
    refine ⟨(zs.take len).map (fun z => UInt8.ofNat z.toNat), ?_⟩
    have e1 : ((zs.take len).map (fun z => UInt8.ofNat z.toNat)).map b8 = (zs.take len).map (V.int .u8) := by
      rw [List.map_map]
      refine List.map_congr_left (fun z hz => (b8uof (hwf z (List.mem_of_mem_take hz))).symm)
    have hlen : ((zs.take len).map (V.int .u8)).length = len := by simp; omega
    have e2 : lb ((zs.take len).map (fun z => UInt8.ofNat z.toNat)) = .lst ((zs.take len).map (V.int .u8)) := by unfold lb; rw [e1]
    rw [e2]
    have fm : ((zs.take len).map (V.int .u8)).flatMap V.cells = (zs.take len).map (V.int .u8) := by
      generalize zs.take len = l
      induction l with
      | nil => rfl
      | cons y l ih =>
        rw [List.map_cons, List.flatMap_cons, ih]
        rfl
    have key := RV.lst (ρ := ren0 W) (w := W) ((zs.take len).map (V.int .u8)) 1 (some ⟨b, off, spot⟩) cap (fun j => .int .u8 (zs.getD j 0)) (by rw [hlen]; exact hl) (fun y hy => by obtain ⟨z, _, rfl⟩ := List.mem_map.1 hy; exact ⟨rfl, rfl⟩) (fun h0 => by
        rw [hlen] at h0
        have hc0 := hcell 0 (by omega)
        have hs : spot = none := by simpa [Addr.add] using World.cell?_spot hc0
        subst hs
        refine ⟨b, off, rfl, cell_lt hc0, fun j hj => ?_⟩
        rw [hlen] at hj
        have := hcell j (by omega)
        rw [add_none] at this
        exact this) (fun j u hu => by
        rw [fm] at hu
        rw [List.getElem?_map] at hu
        obtain ⟨z, hz', rfl⟩ := Option.map_eq_some_iff.1 hu
        have hj : j < len ∧ zs[j]? = some z := by
          rw [List.getElem?_take] at hz'
          split at hz'
          · exact ⟨by assumption, hz'⟩
          · cases hz'
        rw [List.getD_eq_getElem?_getD, hj.2]
        exact .int _ _)
    rw [hlen] at key
    exact key

theorem int_in {t : TypeId} {k : IntKind} (ht : Tryd.prog.underlying t = some (.int k)) {v : Value} (h : DataW.trod enc Tryd.prog W 0 sp held n t [v] = some x) : ∃ z, v = .int k z := by
  obtain ⟨z, hz, _⟩ := DataW.trod_int ht h
  exact ⟨z, (List.cons.inj hz).1⟩
theorem bool_in {t : TypeId} (ht : Tryd.prog.underlying t = some .bool) {v : Value} (h : DataW.trod enc Tryd.prog W 0 sp held n t [v] = some x) : ∃ z, v = .bool z := by
  obtain ⟨z, hz, _⟩ := DataW.trod_bool ht h
  exact ⟨z, (List.cons.inj hz).1⟩

set_option maxRecDepth 100000
theorem five {α : Type} {l : List α} (h : l.length = 5) : ∃ a b c d e, l = [a, b, c, d, e] := by
  match l, h with
  | [a, b, c, d, e], _ => exact ⟨a, b, c, d, e, rfl⟩

theorem act_in {cs : List Value} (h : DataW.trod enc Tryd.prog W 0 sp held n 29 cs = some x) : ∃ (A : Ac1) (bv : Value), cs = [.int .i64 A.op, .int .i64 A.side, .int .i64 A.at', bv, .bool A.stay] ∧ RV (ren0 W) W (lb A.b) bv := by
  obtain ⟨xs, m, _, _, hl, hxl, hf⟩ := DataW.trod_struct Tryd.underlying29 h
  have c5 : Tryd.prog.cellsOf 29 = 5 := by kernel_rfl
  have hl5 : cs.length = 5 := hl.trans c5
  have hx5 : xs.length = 5 := hxl
  obtain ⟨c0, c1, c2, c3, c4, rfl⟩ := five hl5
  obtain ⟨x0, x1, x2, x3, x4, rfl⟩ := five hx5
  have k3 : Tryd.prog.cellsOf 3 = 1 := by kernel_rfl
  have k4 : Tryd.prog.cellsOf 4 = 1 := by kernel_rfl
  have k27 : Tryd.prog.cellsOf 27 = 1 := by kernel_rfl
  have g0 := hf 0 _ rfl
  have g1 := hf 1 _ rfl
  have g2 := hf 2 _ rfl
  have g3 := hf 3 _ rfl
  have g4 := hf 4 _ rfl
  simp only [k3, k4, k27, List.drop_zero, List.drop_succ_cons, List.take_succ_cons, List.take_zero, List.getElem?_cons_zero, List.getElem?_cons_succ] at g0 g1 g2 g3 g4
  obtain ⟨z0, rfl⟩ := int_in Tryd.underlying3 g0
  obtain ⟨z1, rfl⟩ := int_in Tryd.underlying3 g1
  obtain ⟨z2, rfl⟩ := int_in Tryd.underlying3 g2
  obtain ⟨bs, hb⟩ := bytes_in Tryd.underlying27 Tryd.underlying5 (by kernel_rfl) g3
  obtain ⟨z4, rfl⟩ := bool_in Tryd.underlying4 g4
  exact ⟨⟨z0, z1, z2, bs, z4⟩, c3, rfl, hb⟩

theorem acts_in {v : Value} (h : DataW.trod enc Tryd.prog W 0 sp held n 22 [v] = some x) : ∃ l : List Ac1, RV (ren0 W) W (.lst (l.map Ac1.v)) v := by
  rcases Go.Deep.open_slice Tryd.underlying22 h with ⟨hcs, _⟩ | ⟨a, len, cap, m, k, D, Pl, hcs, _, hl, _, hm, _, hel⟩
  · obtain rfl := (List.cons.inj hcs).1
    exact ⟨[], .lst [] 5 none 0 (fun _ => Go.undef) (Nat.le_refl _) (by simp) (fun h => absurd h (by simp)) (by simp)⟩
  · obtain rfl := (List.cons.inj hcs).1
    obtain ⟨b, off, spot⟩ := a
    have hml : len ≤ m := by rw [hm]; split <;> omega
    have c5 : Tryd.prog.cellsOf 29 = 5 := by kernel_rfl
    rw [c5] at hel
    have : Inhabited (Ac1 × Value) := ⟨(⟨0, 0, 0, [], false⟩, Go.undef)⟩
    obtain ⟨F, hF⟩ := Go.Deep.choose_lt (α := Ac1 × Value) (n := len) (p := fun i y => (∀ j, j < 5 → W.cell? ((⟨b, off, spot⟩ : Addr).add (i * 5) |>.add j) = [Value.int .i64 y.1.op, .int .i64 y.1.side, .int .i64 y.1.at', y.2, .bool y.1.stay][j]?) ∧ RV (ren0 W) W (lb y.1.b) y.2) (fun i hi => by
      obtain ⟨cs', h1, h2⟩ := hel i (by omega)
      obtain ⟨A, bv, rfl, hr⟩ := act_in h2
      obtain ⟨_, _, h3⟩ := World.cells?_some h1
      exact ⟨(A, bv), h3, hr⟩)
    refine ⟨(List.range len).map (fun i => (F i).1), ?_⟩
    have hlen : (((List.range len).map (fun i => (F i).1)).map Ac1.v).length = len := by simp
    have hs5 : ∀ y ∈ ((List.range len).map (fun i => (F i).1)).map Ac1.v, y.cells.length = 5 := fun y hy => by
      obtain ⟨A, _, rfl⟩ := List.mem_map.1 hy
      rfl
    have key := RV.lst (ρ := ren0 W) (w := W) (((List.range len).map (fun i => (F i).1)).map Ac1.v) 5 (some ⟨b, off, spot⟩) cap
      (fun j => [Value.int .i64 (F (j / 5)).1.op, .int .i64 (F (j / 5)).1.side, .int .i64 (F (j / 5)).1.at', (F (j / 5)).2, .bool (F (j / 5)).1.stay].getD (j % 5) Go.undef) (by rw [hlen]; exact hl) (fun y hy => by
        obtain ⟨A, _, rfl⟩ := List.mem_map.1 hy
        exact ⟨by simp [Ac1.v, V.sane, V.one, lb], rfl⟩) (fun h0 => by
        rw [hlen] at h0
        have hc0 := (hF 0 h0).1 0 (by omega)
        have hs : spot = none := by simpa [Addr.add] using World.cell?_spot hc0
        subst hs
        rw [add_none, add_none] at hc0
        refine ⟨b, off, rfl, cell_lt hc0, fun j hj => ?_⟩
        rw [hlen] at hj
        have := (hF (j / 5) (by omega)).1 (j % 5) (by omega)
        rw [add_none, add_none, show off + j / 5 * 5 + j % 5 = off + j from by omega] at this
        rw [this, List.getD_eq_getElem?_getD]
        have h5 : j % 5 < 5 := by omega
        rw [List.getElem?_eq_getElem (by simpa using h5)]
        rfl) (fun j u hu => by
        have hjl : j < len * 5 := by
          have := (List.getElem?_eq_some_iff.1 hu).1
          rw [flat_length _ 5 hs5, hlen] at this
          exact this
        have hi : j / 5 < len := by omega
        have hj5 : j % 5 < 5 := by omega
        have hx : (((List.range len).map (fun i => (F i).1)).map Ac1.v)[j / 5]? = some (F (j / 5)).1.v := by simp [hi]
        have hu' := flat_at _ 5 hs5 (j / 5) _ hx (j % 5) hj5
        rw [show j / 5 * 5 + j % 5 = j from by omega, hu] at hu'
        have hr := (hF (j / 5) hi).2
        generalize F (j / 5) = y at *
        obtain ⟨A, bv⟩ := y
        generalize j % 5 = q at *
        have : q = 0 ∨ q = 1 ∨ q = 2 ∨ q = 3 ∨ q = 4 := by omega
        rcases this with rfl | rfl | rfl | rfl | rfl
        · obtain rfl := Option.some.inj hu'; exact .int _ _
        · obtain rfl := Option.some.inj hu'; exact .int _ _
        · obtain rfl := Option.some.inj hu'; exact .int _ _
        · obtain rfl := Option.some.inj hu'; exact hr
        · obtain rfl := Option.some.inj hu'; exact .bool _)
    rw [hlen] at key
    exact key
end

end Go.Am

/- The globals, as the Tunnel rows lay them; what a law's call does. -/
namespace Go.Am
open Go.Proofs Go.ChangeShapes Go.WideShapes Go.ChangeAt Go.RowKit
set_option maxRecDepth 100000

def nibT : List Int := [0, 498536548, 997073096, 651767980, 1994146192, 1802195444, 1303535960, 1342533948, 3988292384, 4027552580, 3604390888, 3412177804, 2607071920, 2262029012, 2685067896, 3183342108]

theorem nib_global : Tryd.prog.globalNamed "flume/sums.nibbles" = some 2 := by kernel_rfl
theorem nib_type : ∃ t, (Tryd.prog.globals[2]?).map (·.type) = some t ∧ Tryd.prog.underlying t = some (.array 16 144) ∧ Tryd.prog.cellsOf t = 16 := ⟨198, by kernel_rfl, by kernel_rfl, by kernel_rfl⟩

theorem glo_of_laid {W : World} (h : laidMet Tryd.prog [("flume/sums.nibbles", YtonbafpfcmlnlaaDoor.Rows.laid_flume_sums_nibbles)] W) : ∀ g, RV (ren0 W) W (Gt g) (.pointer (some ⟨g, 0, none⟩)) := by
  obtain ⟨ps, ⟨g, t, cs, fuel, p, q, hg, ht, hvar, hd, _, _⟩, _⟩ := h
  obtain rfl := Option.some.inj (nib_global.symm.trans hg)
  obtain ⟨t', ht', hu, hc⟩ := nib_type
  obtain rfl := Option.some.inj (ht'.symm.trans ht)
  obtain ⟨xs, m, _, hx, hl, hxl, hel⟩ := DataW.trod_array hu hd
  rw [hc] at hl
  have ce : Tryd.prog.cellsOf 144 = 1 := by kernel_rfl
  rw [ce] at hel
  obtain ⟨hx1, _⟩ := Prod.mk.inj hx
  have hmap : xs.map (·.1) = nibT.map fun z => DataW.lit (Lit.int .u32 z) := (DataW.agg.inj hx1).symm
  have cell : ∀ i, i < 16 → cs[i]? = some (.int .u32 (nibT.getD i 0)) := by
    intro i hi
    have h1 := hel i hi
    have hil : i < cs.toList.length := by omega
    have e1 : (cs.toList.drop (i * 1)).take 1 = [cs.toList[i]] := by
      rw [Nat.mul_one, List.drop_eq_getElem_cons hil]
      rfl
    rw [e1, List.getElem?_eq_getElem (by omega)] at h1
    obtain ⟨z, hz, hy, _⟩ := DataW.trod_int Tryd.underlying144 h1
    have hn : (nibT.map fun z => DataW.lit (H := Unit) (Lit.int .u32 z))[i]? = some xs[i].1 := by
      rw [← hmap, List.getElem?_map, List.getElem?_eq_getElem (by omega)]
      rfl
    rw [hy, List.getElem?_map] at hn
    obtain ⟨z', hz', he⟩ := Option.map_eq_some_iff.1 hn
    have : z' = z := by
      have := DataW.lit.inj he
      injection this
    subst this
    rw [List.getD_eq_getElem?_getD, hz']
    have := (List.cons.inj hz).1
    rw [← Array.getElem?_toList, List.getElem?_eq_getElem hil, this]
    rfl
  intro g
  by_cases e : g = 2
  · subst e
    refine .cptr (nibT.map (V.int .u32)) 2 0 (fun j => .int .u32 (nibT.getD j 0)) (fun y hy => ?_) ?_ (fun j hj => ?_) (fun j u hu => ?_)
    · obtain ⟨z, _, rfl⟩ := List.mem_map.1 hy
      rfl
    · have h0 := World.var?_cell hg hvar 0
      rw [cell 0 (by omega)] at h0
      exact cell_lt h0
    · have hj' : j < 16 := by simpa [nibT] using hj
      rw [Nat.zero_add, World.var?_cell hg hvar j]
      exact cell j hj'
    · rw [List.getElem?_map] at hu
      obtain ⟨z, hz, rfl⟩ := Option.map_eq_some_iff.1 hu
      rw [List.getD_eq_getElem?_getD, hz]
      exact .int _ _
  · have : Gt g = .undef := by
      unfold Gt
      split
      · exact absurd rfl e
      · rfl
    rw [this]
    exact .undef _

end Go.Am

/- What the Tunnel cards share: the start's world with its table. No conditions. -/
namespace Go.Proofs.YtonbafpfcmlnlaaDoor
open Go.ChangeShapes Go.WideShapes Go.ChangeAt Go.RowKit Go.Am
set_option maxRecDepth 100000

theorem own0 : ownKnob Tryd.prog.godebug = none := by kernel_rfl
theorem laidOut0 : laidOutB Tryd.prog = true := by kernel_rfl

/-- The settled world, but for the table. -/
noncomputable def laidWorld (os : Os) : World :=
  let w0 := World.holding Tryd.prog os ⟨#[], #[], []⟩
  { w0 with heap := w0.heap.modify 2 fun
      | .cells _ t frozen => .cells (nibT.map (Value.int .u32)).toArray t frozen
      | o => o }
theorem laid_met (os : Os) (args : Array Value) : laidMet Tryd.prog [("flume/sums.nibbles", Rows.laid_flume_sums_nibbles)] ((laidWorld os).forCall (fun _ _ => 0) ⟨#[], args, []⟩).memory :=
  laidMet_of_run' 8 (by kernel_rfl) (by kernel_rfl)

end Go.Proofs.YtonbafpfcmlnlaaDoor
