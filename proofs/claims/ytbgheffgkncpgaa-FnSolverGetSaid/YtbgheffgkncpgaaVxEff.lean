/- One operation, any of them, with its guard. Conditions: those that each theorem states. -/
import Derived.Test.YtbgheffgkncpgaaVxCall
set_option linter.unusedVariables false
set_option linter.unusedSimpArgs false
namespace Vx
open Go Go.RowKit

section
variable {P : Program} {cx : Cx} {F : Fr} {σ : St} {a : Act} {w : World} {g : Gm}
theorem rkOfElem_ok (htab : TabOk P cx) {t : TypeId} {ek : TypeId × RK} {G : Loc → Ct} (h : (rkOfElem cx t).run G = some ek) : P.underlying t = some (.slice ek.1) ∧ alook cx.ek ek.1 = some ek.2 := by
  obtain ⟨ti, hti, h⟩ := run_bind_some h
  have hu := (htab.ti t ti (run_tio hti)).und
  split at h
  · rename_i e hk
    obtain ⟨k, hk', h⟩ := run_bind_some h
    obtain rfl := run_ret h
    rw [hk] at hu
    exact ⟨hu, run_eko hk'⟩
  · cases h
theorem tio_ok (htab : TabOk P cx) {t : TypeId} {ti : TI} {G : Loc → Ct} (h : (cx.tio t).run G = some ti) : TIok P t ti := htab.ti t ti (run_tio h)
theorem eff_ok (htab : TabOk P cx) (hΦ : Sound P cx.ek cx.Φ) (hF : F.ek = cx.ek) (h : Sat F σ a w g) {o : Oper} (hd : dstOk F.nt o.dst = true) {id : Nat} {ws : List (Loc × Ct)} (hr : (eff cx id o).run (get σ) = some ws)
    {next : Act → World → Prop} {Q : Exit → Act → World → Prop} (hn : ∀ v w' g', Sat F (push ws σ) (a.put o.dst v) w' g' → next (a.put o.dst v) w') : o.wp P a w next Q := by
  -- a value, the world as it was
  have val : ∀ (v : Value) (x : AV), (execOp a.eval o).run P w = .ok (.value v) w → AVRep g F.base w v x → ws = wr o.dst x → o.wp P a w next Q := fun v x e1 e2 e3 => by
    subst e3
    exact wp_value e1 (hn v w g (wr_dst h hd e2))
  have val' : ∀ (v : Value) (x : AV) (s : Sem Value), execOp a.eval o = (do pure (.value (← s))) → s.run P w = .ok v w → AVRep g F.base w v x → ws = wr o.dst x → o.wp P a w next Q := fun v x s e0 e1 e2 e3 =>
    val v x (by rw [e0]; simp [e1]) e2 e3
  have valS : ∀ (v : Value), (execOp a.eval o).run P w = .ok (.value v) w → ws = wr o.dst (.v (.cell (.sc v))) → o.wp P a w next Q := fun v e1 e3 => val v (.v (.cell (.sc v))) e1 rfl e3
  have valS' : ∀ (v : Value) (s : Sem Value), execOp a.eval o = (do pure (.value (← s))) → s.run P w = .ok v w → ws = wr o.dst (.v (.cell (.sc v))) → o.wp P a w next Q := fun v s e0 e1 e3 => val' v (.v (.cell (.sc v))) s e0 e1 rfl e3
  unfold eff at hr
  split at hr
  · -- move
    rename_i x hop
    split at hr
    · obtain ⟨ek, hek, hr⟩ := run_bind_some hr
      obtain ⟨hno, hr⟩ := newLoc_ok hr
      obtain rfl := run_ret hr
      obtain ⟨hu, hk⟩ := rkOfElem_ok htab hek
      have hs := h.newRow hno (fr := true) (d := Row.nil ek.2) (v := .slice none 0 0) (by rw [nil_kind, hF]; exact (htab.ek _ _ hk).2) (nil_own w _ _ _) (fun b hb => by cases hb)
      exact wp_value (v := .slice none 0 0) (w' := w) (by simp [execOp, hop, Act.eval]) (hn _ w _ (wr_dst hs hd ⟨.inr rfl, (if_pos rfl).symm⟩))
    · obtain ⟨v, hv, hr⟩ := run_bind_some hr
      obtain rfl := run_ret hr
      exact val _ _ (by simp [execOp, hop]) (opv_ok h hv) rfl
  · -- assign
    rename_i x hop
    split at hr
    · obtain ⟨ek, hek, hr⟩ := run_bind_some hr
      obtain ⟨hno, hr⟩ := newLoc_ok hr
      obtain rfl := run_ret hr
      obtain ⟨hu, hk⟩ := rkOfElem_ok htab hek
      have hs := h.newRow hno (fr := true) (d := Row.nil ek.2) (v := .slice none 0 0) (by rw [nil_kind, hF]; exact (htab.ek _ _ hk).2) (nil_own w _ _ _) (fun b hb => by cases hb)
      exact wp_value (v := .slice none 0 0) (w' := w) (by simp [execOp, hop, Act.eval]) (hn _ w _ (wr_dst hs hd ⟨.inr rfl, (if_pos rfl).symm⟩))
    · obtain ⟨v, hv, hr⟩ := run_bind_some hr
      obtain rfl := run_ret hr
      exact val _ _ (by simp [execOp, hop]) (opv_ok h hv) rfl
  · -- pick
    rename_i c x y hop
    obtain ⟨b, hb, hr⟩ := run_bind_some hr
    have hb' := scal_ok h hb
    split at hr
    · rename_i t
      cases t with
      | true =>
        obtain ⟨v, hv, hr⟩ := run_bind_some (m := opv x) hr
        obtain rfl := run_ret hr
        exact val _ _ (by simp [execOp, hop, hb', asBool]) (opv_ok h hv) rfl
      | false =>
        obtain ⟨v, hv, hr⟩ := run_bind_some (m := opv y) hr
        obtain rfl := run_ret hr
        exact val _ _ (by simp [execOp, hop, hb', asBool]) (opv_ok h hv) rfl
    · cases hr
  · -- alloc
    rename_i t hop
    obtain ⟨ti, hti, hr⟩ := run_bind_some hr
    obtain ⟨⟨cs, ws'⟩, hz, hr⟩ := run_bind_some hr
    obtain ⟨hno, hr⟩ := newLoc_ok hr
    obtain rfl := run_ret hr
    have ht := tio_ok htab hti
    obtain ⟨hkey, g1, hs1, hle1, hall⟩ := zeroR_ok h ti.zc (fun k hk => by rw [hF]; exact htab.nil t ti (run_tio hti) k hk) id cs ws' hz
    obtain ⟨i, z, h1, h2, h3, h4, h5⟩ := ht.inf
    have hno' : get (push ws' σ) (.b id) = .no := by
      rw [get_push_other fun p hp e => by
        obtain ⟨j, _, e'⟩ := hkey p hp
        rw [e'] at e; cases e]
      exact hno
    obtain ⟨hs2, hle2⟩ := hs1.allocBox hno' (us := z.cells.toList) t (by rw [h5]; exact hall)
    have hfin := wr_dst (x := .bx id 0) (v := .pointer (some ⟨w.heap.size, 0, none⟩)) hs2 hd ⟨.inr rfl, congrArg (fun x => Value.pointer (some ⟨x, 0, none⟩)) (if_pos rfl).symm⟩
    rw [← push_cons, ← push_append] at hfin
    refine wp_value (v := .pointer (some ⟨w.heap.size, 0, none⟩)) (w' := w.alloc (.cells z.cells.toList.toArray t)) ?_ (hn _ _ _ hfin)
    simp [execOp, hop, Instr.alloc, zeroValue, typeInfo, h1, h4, newVar, newRow]
  · -- box
    rename_i t x hop
    obtain ⟨v, hv, hr⟩ := run_bind_some hr
    obtain ⟨cs, hcs, hr⟩ := run_bind_some hr
    obtain ⟨hno, hr⟩ := newLoc_ok hr
    obtain rfl := run_ret hr
    have hall := (cellsOf_ok h (opv_ok h hv) hcs).1
    obtain ⟨hs2, hle2⟩ := h.allocBox hno (us := (a.eval x).cells.toList) t hall
    have hfin := wr_dst (x := .bx id 0) (v := .pointer (some ⟨w.heap.size, 0, none⟩)) hs2 hd ⟨.inr rfl, congrArg (fun x => Value.pointer (some ⟨x, 0, none⟩)) (if_pos rfl).symm⟩
    refine wp_value (v := .pointer (some ⟨w.heap.size, 0, none⟩)) (w' := w.alloc (.cells (a.eval x).cells.toList.toArray t)) ?_ (hn _ _ _ hfin)
    simp [execOp, hop, Instr.box, newVar, newRow]
  · -- build
    rename_i t ps hop
    obtain ⟨ti, hti, hr⟩ := run_bind_some hr
    have ht := tio_ok htab hti
    split at hr
    · rename_i fs hk
      obtain ⟨⟨cs, ws'⟩, hz, hr⟩ := run_bind_some hr
      obtain ⟨cs', hf, hr⟩ := run_bind_some hr
      obtain rfl := run_ret hr
      obtain ⟨hkey, g1, hs1, hle1, hall⟩ := zeroR_ok h ti.zc (fun k hk => by rw [hF]; exact htab.nil t ti (run_tio hti) k hk) id cs ws' hz
      obtain ⟨i, z, h1, h2, h3, h4, h5⟩ := ht.inf
      have hu := ht.und
      rw [hk] at hu
      obtain ⟨fields, hu, hfs⟩ := hu
      have hpl : ∀ (i : Nat) p, fs[i]? = some p → (fun i => fs.toArray[i]?) i = some p := fun i p hp => by simpa using hp
      obtain ⟨cells', e1, e2⟩ := build_ok h hle1 hpl ps.toList z.cells.toList cs cs' _ rfl (by rw [h5]; exact hall) hf
      have hfin := wr_dst (x := .v (.agg cs')) (v := .agg cells') hs1 hd ⟨cells'.toList, by simp, e2⟩
      rw [← push_append] at hfin
      refine wp_value (v := .agg cells') (w' := w) ?_ (hn _ _ _ hfin)
      have hplaces : (fields.mapM fun f => do pure (f.offset, ← Go.sizeOf f.type) : Sem (Array (Nat × Nat))).run P w = .ok fs.toArray w := by
        rw [Array.mapM_eq_mapM_toList, Sem.run_map, run_places _ _ hfs]
        rfl
      have e1' : Instr.fill (fun i => fs.toArray[i]?) z.cells (ps.map fun (x : Nat × Operand) => (x.1, a.eval x.2)).toList = some cells' := by
        rw [Array.toArray_toList] at e1
        rw [← e1]
        congr 1
        simp
      simp only [execOp, hop, Instr.build, zeroValue, typeInfo, Sem.run_bind, run_program, Result.andThen_ok, h1, Sem.run_pure, h4, run_underlying hu, hplaces]
      simp only [e1']
      rfl
    · cases hr
  · -- buildSlice
    rename_i t n ps hop
    obtain ⟨ek, hek, hr⟩ := run_bind_some hr
    obtain ⟨ht, hr⟩ := run_test hr
    obtain ⟨⟨d, fr, fz⟩, hel, hr⟩ := run_bind_some hr
    obtain ⟨hno, hr⟩ := newLoc_ok hr
    obtain rfl := run_ret hr
    obtain ⟨hu, hk⟩ := rkOfElem_ok htab hek
    simp only [Bool.and_eq_true] at ht
    obtain ⟨v, w', g', e1, e2, e3⟩ := buildSlice_ok htab hF h hu hk (Nat.eq_of_beq_eq_true ht.1.1) ht.1.2 (by simpa using ht.2) hel hno
    have hfin := wr_dst e2 hd e3
    rw [push_append, push_cons, push_nil] at hfin
    refine wp_value (v := v) (w' := w') (by simp only [execOp, hop, Sem.run_bind]; rw [e1]; rfl) (hn _ _ g' ?_)
    rw [push_append, push_cons]
    exact hfin
  · -- load
    rename_i t x hop
    obtain ⟨ti, hti, hr⟩ := run_bind_some hr
    obtain ⟨p, hp, hr⟩ := run_bind_some hr
    obtain ⟨v, hv, hr⟩ := run_bind_some hr
    obtain rfl := run_ret hr
    obtain ⟨u, e1, e2⟩ := load_ok (P := P) h (tio_ok htab hti) (opv_ok h hp) hv
    exact val' u v _ (by simp only [execOp, hop]) e1 e2 rfl
  · -- store
    rename_i t x y hop
    obtain ⟨ti, hti, hr⟩ := run_bind_some hr
    obtain ⟨p, hp, hr⟩ := run_bind_some hr
    obtain ⟨v, hv, hr⟩ := run_bind_some hr
    obtain ⟨us, hus, hr⟩ := run_bind_some hr
    obtain ⟨ws', hws, hr⟩ := run_bind_some hr
    obtain rfl := run_ret hr
    have ht := tio_ok htab hti
    have hall := (cellsOf_ok h (opv_ok h hv) hus).1
    have hpp := opv_ok h hp
    have fin : ∀ w' g', (Instr.storeAt t (a.eval x) (a.eval y)).run P w = .ok () w' → Sat F (push ws' σ) a w' g' → o.wp P a w next Q := fun w' g' e1 e2 => by
      have hfin := wr_dst (x := .v (.cell (.sc undef))) (v := undef) e2 hd rfl
      rw [← push_append] at hfin
      exact wp_skip' (by simp only [execOp, hop, Sem.run_bind]; rw [e1]; rfl) (hn _ _ _ hfin)
    unfold storeR at hws
    split at hws
    · rename_i b off
      have hws' := run_ask hws
      split at hws'
      · rename_i cs hb
        obtain ⟨htst, hws2⟩ := run_test hws'
        obtain rfl := run_ret hws2
        simp only [Bool.and_eq_true] at htst
        obtain ⟨w', e1, e2⟩ := storeBox_ok (P := P) h ht hb hpp.2 hall (Nat.eq_of_beq_eq_true htst.1) (fitR_ok htst.2.1) htst.2.2
        exact fin w' g e1 e2
      · cases hws'
    · rename_i i e off
      have hws' := run_ask hws
      split at hws'
      · rename_i fr d hd'
        obtain ⟨htst, hws2⟩ := run_test hws'
        obtain ⟨⟨d', fr2, fz⟩, hset, hws3⟩ := run_bind_some hws2
        obtain rfl := run_ret hws3
        obtain ⟨w', g', e1, e2⟩ := storeRow_ok (P := P) h ht hd' hpp hall (Nat.eq_of_beq_eq_true htst) hset
        exact fin w' g' e1 e2
      · cases hws'
    · cases hws
  · -- nilCheck
    rename_i x hop
    obtain ⟨v, hv, hr⟩ := run_bind_some hr
    have hv' := opv_ok h hv
    split at hr
    · obtain rfl := run_ret hr
      exact val (a.eval x) _ (by simp [execOp, hop, hv'.2]) hv' rfl
    · obtain rfl := run_ret hr
      have hv2 := hv'
      obtain ⟨ad, e1, _⟩ := hv2
      exact val (a.eval x) _ (by simp [execOp, hop, e1]) hv' rfl
    · obtain rfl := run_ret hr
      have hv2 := hv'
      obtain ⟨_, _, ad, len, cap, _, e1, _⟩ := hv2
      exact val (a.eval x) _ (by simp [execOp, hop, e1]) hv' rfl
    · cases hr
  · -- binOp
    rename_i op t x y u hop
    obtain ⟨m, hm, hr⟩ := run_bind_some hr
    obtain ⟨n, hn', hr⟩ := run_bind_some hr
    have e1 := scal_ok h hm
    have e2 := scal_ok h hn'
    split at hr
    · rename_i q hq
      obtain ⟨ti, hti, hr⟩ := run_bind_some hr
      obtain ⟨hb, hr⟩ := run_test hr
      obtain ⟨v, hv, hr⟩ := run_bind_some hr
      obtain rfl := run_ret hr
      have hund := (tio_ok htab hti).und
      have hk : ti.k = .bool := by
        cases hk : ti.k with
        | bool => rfl
        | int k => rw [hk] at hb; cases hb
        | str => rw [hk] at hb; cases hb
        | slice e => rw [hk] at hb; cases hb
        | struct fs => rw [hk] at hb; cases hb
      rw [hk] at hund
      exact valS' v (do eqGuard op t x y m n; binOp op t m n) (by simp only [execOp, hop, e1, e2]) (run_boolR hund hq hv) rfl
    · obtain ⟨v, hv, hr⟩ := run_bind_some hr
      obtain rfl := run_ret hr
      exact valS' v (do eqGuard op t x y m n; binOp op t m n) (by simp only [execOp, hop, e1, e2]) (run_binR hv) rfl
  · -- unOp
    rename_i op t x hop
    obtain ⟨m, hm, hr⟩ := run_bind_some hr
    obtain ⟨v, hv, hr⟩ := run_bind_some hr
    obtain rfl := run_ret hr
    have e1 := scal_ok h hm
    unfold unR at hv
    split at hv
    · obtain rfl := run_ret hv
      refine valS _ ?_ rfl
      simp [execOp, hop, e1, Op.unary]
    · cases hv
  · -- convert
    rename_i ta tb x hop
    obtain ⟨ia, hia, hr⟩ := run_bind_some hr
    obtain ⟨ib, hib, hr⟩ := run_bind_some hr
    obtain ⟨v, hv, hr⟩ := run_bind_some hr
    obtain ⟨u, hu, hr⟩ := run_bind_some hr
    obtain rfl := run_ret hr
    have hA := tio_ok htab hia
    have hB := tio_ok htab hib
    have key : (convR ia.k ib.k v).run (get σ) = some u ∧ ∀ e, ia.k = .slice e → P.underlying e = some (.int .u8) := by
      split at hu
      · rename_i e hk
        obtain ⟨te, hte, hu⟩ := run_bind_some hu
        split at hu
        · rename_i hk8
          refine ⟨hu, fun e' he' => ?_⟩
          rw [hk] at he'
          cases he'
          have := (tio_ok htab hte).und
          rw [hk8] at this
          exact this
        · cases hu
      · rename_i hne
        exact ⟨hu, fun e he => absurd he (hne e)⟩
    obtain ⟨q, e1, e2⟩ := conv_ok (P := P) h hA hB (opv_ok h hv) key.1 key.2
    exact val' q u _ (by simp only [execOp, hop]) e1 e2 rfl
  · -- makeSlice
    rename_i t l c hop
    obtain ⟨ek, hek, hr⟩ := run_bind_some hr
    obtain ⟨m, hm, hr⟩ := run_bind_some hr
    obtain ⟨n, hn', hr⟩ := run_bind_some hr
    have em := scal_ok h hm
    have en := scal_ok h hn'
    split at hr
    · rename_i x y
      obtain ⟨h0, hr⟩ := run_test hr
      obtain ⟨h1, hr⟩ := run_test hr
      obtain ⟨h2, hr⟩ := run_test hr
      obtain ⟨hno, hr⟩ := newLoc_ok hr
      obtain rfl := run_ret hr
      simp only [decide_eq_true_eq] at h0 h1 h2
      subst h1
      obtain ⟨hu, hk⟩ := rkOfElem_ok htab hek
      obtain ⟨v, w', g', e1, e2, e3⟩ := makeSlice_ok htab hF h hu hk h0 h2 hno
      exact wp_value (v := v) (w' := w') (by simp only [execOp, hop, Sem.run_bind, em, en]; rw [e1]; rfl) (hn _ _ g' (wr_dst e2 hd e3))
    · cases hr
  · -- slice
    rename_i t x lo hi hop
    obtain ⟨ti, hti, hr⟩ := run_bind_some hr
    have ht := (tio_ok htab hti).und
    split at hr
    · rename_i hk
      rw [hk] at ht
      obtain ⟨v, hv, hr⟩ := run_bind_some hr
      have ev := scal_ok h hv
      split at hr
      · obtain ⟨u, hu, hr⟩ := run_bind_some hr
        obtain rfl := run_ret hr
        obtain ⟨q, e1, e2⟩ := sliceS_ok (P := P) h ht hu
        exact val' q u _ (by simp only [execOp, hop, ev, Option.map_none]) e1 e2 rfl
      · cases hr
    · rename_i e hk
      rw [hk] at ht
      obtain ⟨te, hte, hr⟩ := run_bind_some hr
      obtain ⟨v, hv, hr⟩ := run_bind_some hr
      obtain ⟨u, hu, hr⟩ := run_bind_some hr
      obtain rfl := run_ret hr
      obtain ⟨q, e1, e2⟩ := sliceR_ok (P := P) h ht (tio_ok htab hte) (opv_ok h hv) hu
      exact val' q u _ (by simp only [execOp, hop, Option.map_none]) e1 e2 rfl
    · cases hr
  · -- fieldAddr
    rename_i t x f hop
    obtain ⟨ti, hti, hr⟩ := run_bind_some hr
    obtain ⟨v, hv, hr⟩ := run_bind_some hr
    obtain ⟨u, hu, hr⟩ := run_bind_some hr
    obtain rfl := run_ret hr
    obtain ⟨q, e1, e2⟩ := field_ok (P := P) h (tio_ok htab hti) (opv_ok h hv) hu
    exact val' q u _ (by simp only [execOp, hop]) e1 e2 rfl
  · -- indexAddr
    rename_i t x y hop
    obtain ⟨ti, hti, hr⟩ := run_bind_some hr
    have ht := (tio_ok htab hti).und
    split at hr
    · rename_i e hk
      rw [hk] at ht
      obtain ⟨te, hte, hr⟩ := run_bind_some hr
      obtain ⟨v, hv, hr⟩ := run_bind_some hr
      obtain ⟨iv, hiv, hr⟩ := run_bind_some hr
      obtain ⟨n, hn', hr⟩ := run_bind_some hr
      obtain ⟨u, hu, hr⟩ := run_bind_some hr
      obtain rfl := run_ret hr
      obtain ⟨k, ek⟩ := asInt_ok (opv_ok h hiv) hn'
      obtain ⟨q, e1, e2⟩ := indexAddr_ok (P := P) h ht (tio_ok htab hte) (opv_ok h hv) ek hu
      exact val' q u _ (by simp only [execOp, hop]) e1 e2 rfl
    · cases hr
  · -- index
    rename_i t x y hop
    obtain ⟨ti, hti, hr⟩ := run_bind_some hr
    have ht := (tio_ok htab hti).und
    split at hr
    · rename_i hk
      rw [hk] at ht
      obtain ⟨v, hv, hr⟩ := run_bind_some hr
      have ev := scal_ok h hv
      split at hr
      · rename_i s
        obtain ⟨iv, hiv, hr⟩ := run_bind_some hr
        obtain ⟨n, hn', hr⟩ := run_bind_some hr
        obtain ⟨h0, h1, hr⟩ := inR_ok hr
        obtain rfl := run_ret hr
        obtain ⟨k, ek⟩ := asInt_ok (opv_ok h hiv) hn'
        have hlt : n.toNat < s.size := by omega
        refine valS' (.int .u8 (bt s n)) (Instr.index t (.string s) (.int k n)) (by simp only [execOp, hop, ev, ek]) ?_ rfl
        have hg : s[n.toNat]? = some s[n.toNat] := by simp [hlt]
        have hb : bt s n = (s[n.toNat].toNat : Int) := by
          unfold bt
          have hl : n.toNat < s.data.toList.length := by simpa using hlt
          rw [List.getD_eq_getElem?_getD, List.getElem?_eq_getElem hl]
          rfl
        simp [Instr.index, asIntOf, run_underlying ht, h0, hg, hb]
      · cases hr
    · cases hr
  · -- extract
    rename_i x n hop
    obtain ⟨v, hv, hr⟩ := run_bind_some hr
    have hv' := opv_ok h hv
    split at hr
    · rename_i vs
      split at hr
      · rename_i u hu
        obtain rfl := run_ret hr
        obtain ⟨us, e1, hall⟩ := hv'
        obtain ⟨q, hq, hq2⟩ := hall.get n u hu
        exact val q (.v u) (by simp [execOp, hop, e1, Instr.extract, hq]) hq2 rfl
      · cases hr
    · cases hr
  · -- call
    rename_i c hop
    split at hr
    · rename_i b hb
      unfold builtinR at hr
      split at hr
      · -- len
        rename_i t x ets eas
        obtain ⟨ti, hti, hr⟩ := run_bind_some hr
        have ht := (tio_ok htab hti).und
        have hca : c.args = #[x] := by apply Array.toList_inj.1; rw [eas]
        have hct : c.argTypes = #[t] := by apply Array.toList_inj.1; rw [ets]
        have hex : execOp a.eval o = (do pure (.value (← Builtin.len_ #[t] o.type #[a.eval x]))) := by
          simp [execOp, hop, resolve, hb, invoke, builtin, hca, hct]
        split at hr
        · rename_i hk
          rw [hk] at ht
          obtain ⟨v, hv, hr⟩ := run_bind_some hr
          have ev := scal_ok h hv
          split at hr
          · rename_i s
            obtain rfl := run_ret hr
            exact valS' (.int .i64 s.size) _ hex (by simp [Builtin.len_, run_underlying ht, ev, goInt]) rfl
          · cases hr
        · rename_i e hk
          rw [hk] at ht
          obtain ⟨v, hv, hr⟩ := run_bind_some hr
          obtain ⟨⟨d, fr⟩, hd', hr⟩ := run_bind_some hr
          obtain rfl := run_ret hr
          obtain ⟨A, cap, e1, _⟩ := rowR_ok h (opv_ok h hv) hd'
          exact valS' (.int .i64 d.len) _ hex (by simp [Builtin.len_, run_underlying ht, e1, goInt]) rfl
        · cases hr
      · -- min
        rename_i t1 t2 x y ets eas
        obtain ⟨m, hm, hr⟩ := run_bind_some hr
        obtain ⟨n, hn', hr⟩ := run_bind_some hr
        have e1 := scal_ok h hm
        have e2 := scal_ok h hn'
        have hca : c.args = #[x, y] := by apply Array.toList_inj.1; rw [eas]
        split at hr
        · rename_i k p l q _
          obtain rfl := run_ret hr
          refine valS' (.int k (if q < p then q else p)) (Builtin.min_ c.argTypes o.type #[.int k p, .int l q]) (by simp [execOp, hop, resolve, hb, invoke, builtin, hca, e1, e2]) ?_ rfl
          simp [Builtin.min_, Builtin.min2]
        · cases hr
      · -- append
        rename_i t1 t2 x y ets eas
        obtain ⟨htt, hrA⟩ := run_test hr
        obtain rfl := Nat.eq_of_beq_eq_true htt
        obtain ⟨ek, hek, hrB⟩ := run_bind_some hrA
        clear hr
        obtain ⟨hu, hk⟩ := rkOfElem_ok htab hek
        obtain ⟨v, hv, hr⟩ := run_bind_some hrB
        have hv' := opv_ok h hv
        have hca : c.args = #[x, y] := by apply Array.toList_inj.1; rw [eas]
        have hct : c.argTypes = #[t1, t1] := by apply Array.toList_inj.1; rw [ets]
        split at hr
        · rename_i i
          have hr' := run_ask hr
          split at hr'
          · rename_i fr d hdr
            obtain ⟨hkd, hr⟩ := run_test hr'
            obtain ⟨yv, hyv, hr⟩ := run_bind_some hr
            obtain ⟨⟨d2, fr2⟩, hp, hr⟩ := run_bind_some hr
            split at hr
            · rename_i d' happ
              obtain ⟨hlt, hr⟩ := run_test hr
              obtain ⟨hno, hr⟩ := newLoc_ok hr
              obtain rfl := run_ret hr
              obtain ⟨q, w', g', e1, e2, e3⟩ := append_ok (P := P) (ty := o.type) htab hF h hu hk hdr (RK.eqb_iff.1 hkd) hv'.1 (rowR_ok h (opv_ok h hyv) hp) happ (by simpa using hlt) hno
              refine wp_value (v := q) (w' := w') ?_ (hn _ _ g' (wr_dst e2 hd e3))
              simp only [execOp, hop, resolve, hb, invoke, builtin, hca, hct, List.map_toArray, List.map_cons, List.map_nil, Sem.run_bind, Sem.run_pure, Result.andThen_ok, hv'.2]
              rw [e1]
              rfl
            · cases hr
          · cases hr'
        · cases hr
      · cases hr
    · rename_i f hf
      exact call_ok hΦ hF h hd hop hf hr hn
    · cases hr
  · cases hr
end
end Vx
