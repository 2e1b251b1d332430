/- A cell of one row beside an append to another. Conditions: as the theorem states them. -/
import Derived.Test.YteklimdjlihloaaAut
namespace Go.Proofs.Yteklimdjlihloaa.G
open Go.Proofs.YteklimdjlihloaaW.PrintLast Go.RowKit Go.Proofs.YteklimdjlihloaaW.PrintWords Go.Proofs.YteklimdjlihloaaW.PrintLast Go.Proofs.YteklimdjlihloaaW.PrintMore
theorem cg {α : Type} {d : Kd α} {e base : Nat} {ok : Nat → Prop} {v : Value} {xs : List α} {w W W1 : World} {p : Addr} {x : Value} (hg : W.grownBy W1 v.ownBlock) (hc : W.cell? p = some x) (h : Aside0 (Kd.R d e w base ok v xs)) (hk : ok p.block → False := by (first | rw [add_block] | (show _ (Addr.add _ _).block → False; rw [add_block]) | skip); intro h; first | exact h.2 rfl | exact h.1.2 rfl | exact h.1.1.2 rfl | exact h.1.1.1.2 rfl | exact h.2.1 rfl | exact h.2.2 rfl | exact h.2.2.1 rfl | exact h.2.2.2 rfl | exact h.1.2.1 rfl | exact h.1.2.2 rfl | exact h.1.1.1 rfl | exact h.1.1 rfl | exact h.1 rfl) : W1.cell? p = some x := cell_grown hg hc (fun e_ => hk (h.out.1 _ e_.symm))
end Go.Proofs.Yteklimdjlihloaa.G
