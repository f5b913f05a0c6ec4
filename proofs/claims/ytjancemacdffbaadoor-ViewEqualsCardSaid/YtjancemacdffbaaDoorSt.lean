/- A bridge: a region's still head, walked by the cheap steps of the quiet walk. -/
import Derived.BigQuiet
import Derived.StillTailTactics
namespace Go.Proofs.YtjancemacdffbaaDoor
theorem wpStill_of_quiet {P : Program} {ops : Array Oper} {W : World} {Q : Act → Prop} : ∀ (l : List Oper) (a : Act), wpQuiet P ops (fun x => x = W) Q l a → wpStill P ops W Q l a
  | [], _, h => h
  | o :: rest, a, h => by
    unfold wpQuiet at h
    unfold wpStill
    split
    · rename_i hw
      rw [if_pos hw] at h
      obtain ⟨v, hv, hk⟩ := h
      have hW := hv W rfl
      unfold Oper.quietAt at hW
      unfold Oper.still
      generalize (execOp a.eval o).run P W = res at *
      cases res with
      | ok n w' =>
        cases n <;> simp only [Oper.quietUpon, Oper.stillUpon] at hW ⊢
        case value u => obtain ⟨h1, rfl⟩ := hW; exact ⟨h1, wpStill_of_quiet rest _ hk⟩
        case skip => obtain ⟨h1, rfl⟩ := hW; exact ⟨h1, wpStill_of_quiet rest _ hk⟩
        case enter f args => exact ⟨hW.1, v, hW.2, wpStill_of_quiet rest _ hk⟩
      | halt x w' => cases x <;> simp only [Oper.quietUpon] at hW
    · rename_i hw
      rw [if_neg hw] at h
      exact wpStill_of_quiet rest _ h
end Go.Proofs.YtjancemacdffbaaDoor
