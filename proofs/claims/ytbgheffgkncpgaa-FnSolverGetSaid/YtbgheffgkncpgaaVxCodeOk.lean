/- Code: what the executor finds, the run does. Conditions: those that each theorem states. -/
import Derived.Test.YtbgheffgkncpgaaVxNorm
import Derived.Deep.LoopGhost
set_option linter.unusedVariables false
set_option linter.unusedSimpArgs false
namespace Vx
open Go Go.RowKit

def PostK {R : Type} (F : Fr) (kn : St → Option R) (kx : Ex → St → Option R) (r : R) : Exit → Act → World → Prop
  | .normal, a, w => ∃ σ g, kn σ = some r ∧ Sat F σ a w g
  | .exit i, a, w => ∃ σ g, kx (.exit i) σ = some r ∧ Sat F σ a w g
  | .ret, a, w => ∃ σ g, kx .ret σ = some r ∧ Sat F σ a w g
  | _, _, _ => False
structure Setup (P : Program) (cx : Cx) (F : Fr) (fi : FnI) : Prop where
  tab : TabOk P cx
  sound : Sound P cx.ek cx.Φ
  ek : F.ek = cx.ek
  nt : fi.nt = F.nt
  nb : fi.nb = F.pb.length
  mix : P.follows .mixedOrders = true
theorem condK_ok {R : Type} {F : Fr} {σ : St} {a : Act} {w : World} {g : Gm} (h : Sat F σ a w g) {c : Operand} {t e : Unit → Option R} {r : R} (hr : condK c σ t e = some r) : ∃ b, a.eval c = .bool b ∧ (if b then t () else e ()) = some r := by
  unfold condK at hr
  split at hr
  · rename_i n
    rw [lookupK_eq] at hr
    split at hr
    · rename_i b hb
      have := h.tmp n _ hb
      refine ⟨b, this, ?_⟩
      cases b <;> exact hr
    · cases hr
  · rename_i b
    refine ⟨b, rfl, ?_⟩
    cases b <;> exact hr
  · cases hr
theorem cxK_ok {P : Program} {cx : Cx} {F : Fr} {fi : FnI} (S : Setup P cx F fi) {R : Type} (n : Nat) : ∀ (c : Code) (σ : St) (kn : St → Option R) (kx : Ex → St → Option R) (r : R) (a : Act) (w : World) (g : Gm),
    cxK cx fi n c σ kn kx = some r → Sat F σ a w g → c.wp P (PostK F kn kx r) a w := by
  intro c
  induction c with
  | skip => exact fun σ kn kx r a w g h hs => wp_skip ⟨σ, g, h, hs⟩
  | region id ops draw => exact fun σ kn kx r a w g h hs => region_ok S.tab S.sound S.ek S.nt S.mix h hs fun τ a' w' g' hk hs' => ⟨τ, g', hk, hs'⟩
  | seq x y ihx ihy =>
    intro σ kn kx r a w g h hs
    refine wp_seq (wp_mono (ihx σ _ kx r a w g h hs) fun e a' w' hq => ?_)
    cases e with
    | normal => obtain ⟨σ', g', h1, h2⟩ := hq; exact ihy σ' kn kx r a' w' g' h1 h2
    | exit i => exact hq
    | ret => exact hq
    | goto l => exact hq.elim
    | panic ch => exact hq.elim
    | outgrown => exact hq.elim
  | cond c x y ihx ihy =>
    intro σ kn kx r a w g h hs
    obtain ⟨b, h1, h2⟩ := condK_ok hs h
    cases b with
    | true => exact wp_cond_true h1 (ihx σ kn kx r a w g h2 hs)
    | false => exact wp_cond_false h1 (ihy σ kn kx r a w g h2 hs)
  | block id c ih =>
    intro σ kn kx r a w g h hs
    refine wp_block (wp_mono (ih σ kn _ r a w g h hs) fun e a' w' hq => ?_)
    cases e with
    | normal => exact hq
    | exit i =>
      obtain ⟨σ', g', h1, h2⟩ := hq
      show (if i = id then _ else _)
      simp only at h1
      split at h1
      · rename_i hb
        rw [if_pos (Nat.eq_of_beq_eq_true hb)]
        exact ⟨σ', g', h1, h2⟩
      · rename_i hb
        rw [if_neg fun e => by rw [e, Nat.beq_refl] at hb; cases hb]
        exact ⟨σ', g', h1, h2⟩
    | ret => exact hq
    | goto l => exact hq.elim
    | panic ch => exact hq.elim
    | outgrown => exact hq.elim
  | loop c ih =>
    intro σ kn kx r a w g h hs
    unfold cxK at h
    split at h
    · rename_i τ hτ
      rw [S.nb] at hτ
      obtain ⟨g1, hs1⟩ := norm_ok hs hτ
      refine wp_loop_ghost (fun m a' w' => ∃ σ' g', iter (fun σ' k => cxK cx fi n c σ' k kx) (fi.live (keyOf c)) fi.nb m σ' = some r ∧ Sat F σ' a' w' g') n ⟨τ, g1, h, hs1⟩ ?_
      intro m a' w' hI
      obtain ⟨σ', g', h1, h2⟩ := hI
      cases m with
      | zero => cases h1
      | succ m =>
        refine wp_mono (ih σ' _ kx r a' w' g' h1 h2) fun e a2 w2 hq => ?_
        cases e with
        | normal =>
          obtain ⟨σ2, g2, h3, h4⟩ := hq
          simp only at h3
          split at h3
          · rename_i τ2 hτ2
            rw [S.nb] at hτ2
            obtain ⟨g3, hs3⟩ := norm_ok h4 hτ2
            exact ⟨m, Nat.lt_succ_self m, τ2, g3, h3, hs3⟩
          · cases h3
        | exit i => exact hq
        | ret => exact hq
        | goto l => exact hq.elim
        | panic ch => exact hq.elim
        | outgrown => exact hq.elim
    · cases h
  | exit id => exact fun σ kn kx r a w g h hs => wp_exit ⟨σ, g, h, hs⟩
  | ret => exact fun σ kn kx r a w g h hs => wp_ret ⟨σ, g, h, hs⟩
  | rangeFunc f params assign body iha ihb => exact fun σ kn kx r a w g h hs => by cases h
  | scope body ih => exact fun σ kn kx r a w g h hs => by cases h
  | label l => exact fun σ kn kx r a w g h hs => by cases h
  | goto l => exact fun σ kn kx r a w g h hs => by cases h
  | refuse why => exact fun σ kn kx r a w g h hs => by cases h
end Vx
