/-
  The quiet operations, continued: comparisons, composite literals, look-ups.
-/
import Derived.Test.YtfoadgepblojpaaAmD
namespace Go.AM
open Go.RowKit

section
variable {P : Program} {φ : Nat → Value} {F : Nat → Prop} {w : World} {tb : Tb} {σ : Sto} {cx : Cx}

theorem vsim_d {x : L} {v : Value} (h : rep w F x v) : vsim φ w F (.u (.one (.d x))) v := h

theorem strOp_sound {op : BinOp} {a b : ByteArray} {x : L} (h : strOp op a b = some x) : ∃ u, (Op.stringOp op a b).run P w = .ok u w ∧ rep w F x u := by
  unfold strOp at h
  split at h
  · split at h
    · cases h
    · rename_i hle
      cases h
      exact ⟨_, by simp only [Op.stringOp, if_neg hle]; rfl, by simp [rep]⟩
  all_goals first | (cases h; exact ⟨_, by simp only [Op.stringOp]; rfl, by simp [rep]⟩) | cases h

theorem eqFields_sound {xs ys : Array Value} (d : Nat) : ∀ (fs : List Field) (i : Nat) (cs ds : List C) (b : Bool), cs.length = fs.length → ds.length = fs.length →
    (∀ (j : Nat) (f : Field), fs[j]? = some f → f.name ≠ "_" ∧ f.offset = i + j ∧ ∃ k, P.underlying f.type = some (.int k)) →
    csims φ w F cs (xs.toList.drop i) → csims φ w F ds (ys.toList.drop i) → eqInts cs ds = some b → (Op.eqFields (d + 1) xs ys fs).run P w = .ok b w
  | [], i, cs, ds, b, hc, hd, _, _, _, h => by
    have h1 : cs = [] := List.eq_nil_of_length_eq_zero hc
    have h2 : ds = [] := List.eq_nil_of_length_eq_zero hd
    subst h1 h2
    cases h
    simp [Op.eqFields]
  | f :: fs, i, cs, ds, b, hc, hd, hf, hx, hy, h => by
    match cs, ds, hc, hd with
    | c :: cs, e :: ds, hc, hd =>
      unfold eqInts at h
      split at h
      · rename_i h1 _; cases h1
      · rename_i k a cs' k' a' ds' h1 h2
        cases h1; cases h2
        split at h
        · rename_i hk
          subst hk
          cases hr : eqInts cs ds with
          | none => rw [hr] at h; cases h
          | some t =>
            rw [hr] at h
            simp only [Option.map_some, Option.some.injEq] at h
            simp only [csims] at hx hy
            obtain ⟨u, ru, hu, hcu, hru⟩ := hx
            obtain ⟨v, rv, hv, hcv, hrv⟩ := hy
            simp only [csim, rep] at hcu hcv
            subst hcu hcv
            obtain ⟨hn, ho, k', hk'⟩ := hf 0 f rfl
            have e1 : xs[i]? = some (.int k a) := by
              have : xs.toList[i]? = some (.int k a) := by rw [← Nat.add_zero i, ← List.getElem?_drop, hu]; rfl
              simpa using this
            have e2 : ys[i]? = some (.int k a') := by
              have : ys.toList[i]? = some (.int k a') := by rw [← Nat.add_zero i, ← List.getElem?_drop, hv]; rfl
              simpa using this
            have p1 : (part f.type xs f.offset).run P w = .ok (.int k a) w := by simp [part, isAgg, run_underlying hk', ho, e1]
            have p2 : (part f.type ys f.offset).run P w = .ok (.int k a') w := by simp [part, isAgg, run_underlying hk', ho, e2]
            have ih := eqFields_sound d fs (i + 1) cs ds t (by simpa using hc) (by simpa using hd) (fun j f' hj => by
              have := hf (j + 1) f' (by simpa using hj)
              exact ⟨this.1, by rw [this.2.1]; omega, this.2.2⟩) (by rw [show i + 1 = i + 1 from rfl, ← List.tail_drop, hu]; exact hru) (by rw [← List.tail_drop, hv]; exact hrv) hr
            simp only [Op.eqFields, Sem.run_bind, hn, ne_eq, not_false_eq_true, if_true, p1, p2, Result.andThen_ok, run_equalIn_int w d f.type k k' a a' hk', Sem.run_ite]
            cases hab : (a == a') with
            | false => rw [hab] at h; simp at h; subst h; simp
            | true => rw [hab] at h; simp at h; subst h; simpa using ih
        · cases h
      · cases h

theorem negB_cases {op : BinOp} {b : Bool} {x : L} (h : negB op b = some x) : (op = .eql ∧ x = .bool b) ∨ (op = .neq ∧ x = .bool !b) := by
  unfold negB at h
  split at h
  · cases h; exact .inl ⟨rfl, rfl⟩
  · cases h; exact .inr ⟨rfl, rfl⟩
  · cases h

theorem equalIn_nil (d : Nat) {t e : TypeId} (h : P.underlying t = some (.slice e)) : (Op.equalIn (d + 1) t (.slice none 0 0) (.slice none 0 0)).run P w = .ok true w := by
  simp [Op.equalIn, run_underlying h]
theorem equalIn_some (d : Nat) {t e : TypeId} (h : P.underlying t = some (.slice e)) (a : Addr) (n c : Nat) : (Op.equalIn (d + 1) t (.slice (some a) n c) (.slice none 0 0)).run P w = .ok false w := by
  simp [Op.equalIn, run_underlying h]

theorem qbin_sound (ht : TbOk P tb) {op : BinOp} {t : TypeId} {x y v : V} {u q : Value} {xo yo : Operand} (h : qbin tb op t x y = some v) (hx : vsim φ w F x u) (hy : vsim φ w F y q) :
    Yields P φ F (do eqGuard op t xo yo u q; binOp op t u q) w v := by
  unfold qbin at h
  split at h
  · rename_i k a k' b
    simp only [vsim, usim, csim, rep] at hx hy
    subst hx hy
    have hg : (eqGuard op t xo yo (.int k a) (.int k' b)).run P w = .ok () w := by cases op <;> simp [eqGuard]
    split at h
    · rename_i hs
      cases hq : shiftOp op k a b with
      | none => rw [hq] at h; cases h
      | some z =>
        rw [hq] at h
        cases h
        unfold shiftOp at hq
        split at hq
        · split at hq
          · cases hq
          · rename_i hb
            cases hq
            exact Yields.here (by simp only [Sem.run_bind, hg, Result.andThen_ok, binOp, Op.shift, if_neg hb]; rfl) (by simp [vsim, usim, csim, rep])
        · split at hq
          · cases hq
          · rename_i hb
            cases hq
            exact Yields.here (by simp only [Sem.run_bind, hg, Result.andThen_ok, binOp, Op.shift, if_neg hb]; rfl) (by simp [vsim, usim, csim, rep])
        · cases hq
    · rename_i hs
      split at h
      · rename_i hk
        subst hk
        cases hq : intOp op k a b with
        | none => rw [hq] at h; cases h
        | some z =>
          rw [hq] at h
          cases h
          unfold intOp at hq
          split at hq
          case h_4 =>
            split at hq
            · cases hq
            · rename_i hb
              cases hq
              exact Yields.here (by simp only [Sem.run_bind, hg, Result.andThen_ok, binOp, ne_eq, not_true_eq_false, if_false, Op.intDiv, if_neg hb]; rfl) (by simp [vsim, usim, csim, rep])
          case h_5 =>
            split at hq
            · cases hq
            · rename_i hb
              cases hq
              exact Yields.here (by simp only [Sem.run_bind, hg, Result.andThen_ok, binOp, ne_eq, not_true_eq_false, if_false, Op.intDiv, if_neg hb]; rfl) (by simp [vsim, usim, csim, rep])
          all_goals first
            | (cases hq; exact Yields.here (by simp only [Sem.run_bind, hg, Result.andThen_ok, binOp, ne_eq, not_true_eq_false, if_false, Op.intArith, Op.intBits, Op.intCmp]; rfl) (by simp [vsim, usim, csim, rep]))
            | cases hq
      · cases h
  · rename_i a b
    simp only [vsim, usim, csim, rep] at hx hy
    subst hx hy
    have hg : (eqGuard op t xo yo (.bool a) (.bool b)).run P w = .ok () w := by cases op <;> simp [eqGuard]
    split at h
    · rename_i ti hty
      have T := ht.ty t ti hty
      split at h
      · rename_i hd
        cases hq : negB op (a == b) with
        | none => rw [hq] at h; cases h
        | some z =>
          rw [hq] at h
          cases h
          have he : (Op.equal t (.bool a) (.bool b)).run P w = .ok (a == b) w := by
            unfold Op.equal Op.maxDepth
            exact run_equalIn_bool' w 9999 t a b (T.und.trans (by rw [hd]))
          rcases negB_cases hq with ⟨rfl, rfl⟩ | ⟨rfl, rfl⟩
          · exact Yields.here (by simp only [Sem.run_bind, hg, Result.andThen_ok, binOp, he]; rfl) (by simp [vsim, usim, csim, rep])
          · exact Yields.here (by simp only [Sem.run_bind, hg, Result.andThen_ok, binOp, he]; rfl) (by simp [vsim, usim, csim, rep])
      · cases h
    · cases h
  · rename_i a b
    simp only [vsim, usim, csim, rep] at hx hy
    subst hx hy
    have hg : (eqGuard op t xo yo (.string a) (.string b)).run P w = .ok () w := by cases op <;> simp [eqGuard]
    cases hq : strOp op a b with
    | none => rw [hq] at h; cases h
    | some z =>
      rw [hq] at h
      cases h
      obtain ⟨u, hu, hr⟩ := strOp_sound (P := P) (w := w) (F := F) hq
      refine Yields.here (u := u) ?_ hr
      have hb : binOp op t (.string a) (.string b) = Op.stringOp op a b := by cases op <;> simp [binOp, strOp] at hq ⊢
      simp only [Sem.run_bind, hg, Result.andThen_ok, hb, hu]
  · rename_i cs ds
    split at h
    · rename_i n hn
      split at h
      · rename_i hl
        obtain ⟨fs, hu, hp, heq, hsz, hfs⟩ := ht.eqn t n hn
        obtain ⟨xs, rfl, hxs⟩ := hx
        obtain ⟨ys, rfl, hys⟩ := hy
        cases hq : eqInts cs ds with
        | none => rw [hq] at h; cases h
        | some b =>
          rw [hq] at h
          simp only [Option.bind_some] at h
          cases hz : negB op b with
          | none => rw [hz] at h; cases h
          | some z =>
            rw [hz] at h
            cases h
            have hfo : P.fieldsOf t = fs := by simp [Program.fieldsOf, hu]
            have he : (Op.equalIn 10000 t (.agg xs) (.agg ys)).run P w = .ok b w := by
              rw [run_equalIn_struct w 9999 t xs ys (by rw [hfo]; exact hu) hp, hfo]
              exact eqFields_sound (φ := φ) (F := F) 9998 fs.toList 0 cs ds b (by simp; omega) (by simp; omega) (fun j f hj => by simpa using hfs j f hj) (by simpa using hxs) (by simpa using hys) hq
            have hg := run_eqGuard_agg (P := P) w op t xo yo xs ys heq
            rcases negB_cases hz with ⟨rfl, rfl⟩ | ⟨rfl, rfl⟩
            · exact Yields.here (u := .bool b) (by simp only [Sem.run_bind, hg, Result.andThen_ok, run_eql_struct, he]) (by simp [vsim, usim, csim, rep])
            · exact Yields.here (u := .bool !b) (by simp only [Sem.run_bind, hg, Result.andThen_ok, run_neq_struct, he]) (by simp [vsim, usim, csim, rep])
      · cases h
    · cases h
  · rename_i x' _
    simp only [vsim, usim, csim, rep] at hx hy
    subst hy
    split at h
    · rename_i ti hty
      have T := ht.ty t ti hty
      split at h
      · rename_i e hd
        simp only [rep] at hx
        subst hx
        have hg : (eqGuard op t xo yo (.slice none 0 0) (.slice none 0 0)).run P w = .ok () w := by cases op <;> simp [eqGuard]
        have he : (Op.equal t (.slice none 0 0) (.slice none 0 0)).run P w = .ok true w := by
          unfold Op.equal Op.maxDepth
          exact equalIn_nil 9999 (T.und.trans (by rw [hd]))
        cases hq : negB op true with
        | none => rw [hq] at h; cases h
        | some z =>
          rw [hq] at h
          cases h
          rcases negB_cases hq with ⟨rfl, rfl⟩ | ⟨rfl, rfl⟩
          · exact Yields.here (by simp only [Sem.run_bind, hg, Result.andThen_ok, binOp, he]; rfl) (by simp [vsim, usim, csim, rep])
          · exact Yields.here (by simp only [Sem.run_bind, hg, Result.andThen_ok, binOp, he]; rfl) (by simp [vsim, usim, csim, rep])
      · rename_i e sz r rs hd
        simp only [rep] at hx
        obtain ⟨ao, m, c, rfl, _, _, _, hr⟩ := hx
        obtain ⟨b, o, rfl, _⟩ := hr.resolve_left (by simp)
        have hg : (eqGuard op t xo yo (.slice (some ⟨b, o, none⟩) m c) (.slice none 0 0)).run P w = .ok () w := by cases op <;> simp [eqGuard]
        have he : (Op.equal t (.slice (some ⟨b, o, none⟩) m c) (.slice none 0 0)).run P w = .ok false w := by
          unfold Op.equal Op.maxDepth
          exact equalIn_some 9999 (T.und.trans (by rw [hd])) _ _ _
        cases hq : negB op false with
        | none => rw [hq] at h; cases h
        | some z =>
          rw [hq] at h
          cases h
          rcases negB_cases hq with ⟨rfl, rfl⟩ | ⟨rfl, rfl⟩
          · exact Yields.here (by simp only [Sem.run_bind, hg, Result.andThen_ok, binOp, he]; rfl) (by simp [vsim, usim, csim, rep])
          · exact Yields.here (by simp only [Sem.run_bind, hg, Result.andThen_ok, binOp, he]; rfl) (by simp [vsim, usim, csim, rep])
      · cases h
    · cases h
  · cases h
end
end Go.AM
