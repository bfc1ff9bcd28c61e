/- TunnelSame: for every input the law answers true, and the input reads afterwards as it did. -/
import Derived.Test.YtonbafpfcmlnlaaDoorM10
import Derived.Test.YtonbafpfcmlnlaaDoorCards
import Derived.Test.YtonbafpfcmlnlaaDoorTie
import Derived.SevenTiedAt
set_option linter.all false
namespace Go.Proofs.YtonbafpfcmlnlaaDoor
open Go.ChangeShapes Go.WideShapes Go.ChangeAt Go.RowKit Go.Am
set_option maxRecDepth 100000

theorem own0 : ownKnob Tryd.prog.godebug = none := by kernel_rfl
theorem laidOut0 : laidOutB Tryd.prog = true := by kernel_rfl

/-- The settled world, but for the table. -/
noncomputable def laidWorld (os : Os) : World :=
  let w0 := World.holding Tryd.prog os ⟨#[], #[], []⟩
  { w0 with heap := w0.heap.modify 2 fun
      | .cells _ t frozen => .cells (nibT.map (Value.int .u32)).toArray t frozen
      | o => o }
theorem laid_met (os : Os) (args : Array Value) : laidMet Tryd.prog [("flume/sums.nibbles", Rows.laid_flume_sums_nibbles)] ((laidWorld os).forCall (fun _ _ => 0) ⟨#[], args, []⟩).memory :=
  laidMet_of_run' 8 (by kernel_rfl) (by kernel_rfl)

theorem same_lifted (os : Os) (started : os.Started) (H : Type) (enc : TypeId × Value → H) :
    ReturnsInHanded {} Tryd.checked os 6 .any (fun w args => (Rows.tunnelSameSpec.pre enc Tryd.prog Tryd.f6 Rows.tunnelSameRow.domain false w args ∧ laidMet Tryd.prog Rows.tunnelSameRow.laid w) ∧ sizedMet enc Tryd.prog Tryd.f6 (OpenSpec.ofChange Rows.tunnelSameSpec) false w args)
      (Rows.tunnelSameSpec.post enc Tryd.prog Tryd.f6 false true false false) := by
  refine returnsInHanded_of_change_and (C := Tryd.checked) (X := fun w _ => laidMet Tryd.prog Rows.tunnelSameRow.laid w) (fun _ _ _ hh h => h.of_heap hh) own0 started (by kernel_rfl) Tryd.func6
    (ChangeSpec.witness_at (enc := enc) (C := Tryd.checked) (os := os) (X := fun w _ => laidMet Tryd.prog Rows.tunnelSameRow.laid w) false (laidWorld os) #[.slice none 0 0, .slice none 0 0] 8 rfl (by kernel_rfl) (by kernel_rfl) (by kernel_rfl) (by kernel_rfl) (by kernel_rfl) (laid_met os _)) ?_
  intro W base args ds gs before hval0 hW _ _ hL _
  have hval : ∀ (j : Nat) t v, Tryd.f6.params[j]? = some t → args[j]? = some v → Value.okWide Tryd.prog W .any base t v := hval0
  have hW' := hW
  obtain ⟨p, q, hA0, hV, rfl, _, _⟩ := hW
  have hA : DataW.TrodAll enc Tryd.prog W 0 (fun _ => true) true Tryd.f6.params.toList args.toList ds p := hA0
  rw [Tryd.params6] at hA hval
  obtain ⟨v0, v1, d0, d1, p0, p1, rfl, rfl, rfl, h0, h1⟩ := trodAll_two hA
  obtain ⟨rfl, rfl⟩ := trodVars_none hV
  simp only [List.append_nil] at hW'
  have hlt : ∀ x ∈ p0 ++ p1, x.block < W.heap.size := fun x hx => by simpa using hW'.lt x hx
  obtain ⟨n0, g0⟩ := h0
  obtain ⟨n1, g1⟩ := h1
  obtain ⟨s0, len0, cap0, rfl⟩ := okWide_slice Tryd.underlying22 (hval 0 22 v0 rfl rfl)
  obtain ⟨s1, len1, cap1, rfl⟩ := okWide_slice Tryd.underlying22 (hval 1 22 v1 rfl rfl)
  obtain ⟨l, rl⟩ := acts_in (show DataW.trod enc Tryd.prog W 0 _ _ n0 22 [.slice s0 len0 cap0] = some _ from g0)
  obtain ⟨o, ro⟩ := acts_in (show DataW.trod enc Tryd.prog W 0 _ _ n1 22 [.slice s1 len1 cap1] = some _ from g1)
  have hv : Vs (ren0 W) W [acts l, acts o] #[.slice s0 len0 cap0, .slice s1 len1 cap1] := ⟨rfl, fun j u hu => by
    match j, hu with
    | 0, hu => obtain rfl := Option.some.inj hu; exact rl
    | 1, hu => obtain rfl := Option.some.inj hu; exact ro⟩
  refine (entry (glo_of_laid hL) hv (same_law l o _ (fun _ _ => rfl))).mono fun e W' ⟨he, hb⟩ => ?_
  subst he
  refine ⟨_, rfl, ⟨_, _, _, [], p0 ++ p1, [], hW', trodAll_mk1 (shut_bool Tryd.underlying4 true), trodAll_mk2 ?_ ?_, rfl, hb.frame _, fun h => by cases h⟩⟩
  · exact Below.trod laidOut0 (by kernel_rfl) (of_decide_eq_true (by kernel_rfl)) ⟨n0, g0⟩ hb (fun x hx => hlt x (List.mem_append_left _ hx))
  · exact Below.trod laidOut0 (by kernel_rfl) (of_decide_eq_true (by kernel_rfl)) ⟨n1, g1⟩ hb (fun x hx => hlt x (List.mem_append_right _ hx))

theorem same_row : Rows.TunnelSameSaid :=
  OpenClaim.holds_of_wide 6 Tryd.f6 rfl rfl rfl rfl rfl rfl rfl ⟨rfl, rfl, rfl, rfl, rfl⟩ rfl rfl rfl rfl rfl (by kernel_rfl) Tryd.func6 (by kernel_rfl)
    (of_decide_eq_true (by kernel_rfl)) (by unfold Func.isWrapper; rw [if_neg (of_decide_eq_false (by kernel_rfl))]; exact ⟨rfl, rfl⟩)
    (fun os started H enc _ => same_lifted os started H enc)

theorem tunnelSame_holds : Rows.TunnelSameCardSaid :=
  Claim7.holds_tied_plain_at .later [] [.data] true (true, "7f068b84fedb692dbca89e4166dc3c29cdc60f97a8012df1147d4679e28305a5") false
    same_row (fun _ h => by cases h) (by kernel_rfl) (fun _ h => by cases h) tunnelSame_row_tie rfl ⟨rfl, rfl⟩ (by kernel_rfl) rfl
    (fun f fn hf hfn => by
      obtain rfl : f = 6 := Option.some.inj ((show Tryd.prog.funcNamed "flume/flumelaw12.TunnelSame" = some 6 by kernel_rfl).symm.trans hf) |>.symm
      obtain rfl : fn = Tryd.f6 := (Option.some.inj (Tryd.func6.symm.trans hfn)).symm
      exact ⟨by kernel_rfl, fun j t ht => by
        rw [Tryd.params6] at ht
        have h3 : t = 22 := by
          rcases j with _ | _ | j
          · simpa using ht.symm
          · simpa using ht.symm
          · simp at ht
        subst h3
        exact (show Tryd.prog.wantsStandIn 22 = false by kernel_rfl)⟩)
    (by kernel_rfl)
#print axioms tunnelSame_holds
end Go.Proofs.YtonbafpfcmlnlaaDoor
