/-
  The quiet operations: what the evaluation yields, the model's operation yields.
-/
import Derived.Test.YtfoadgepblojpaaAmC
namespace Go.AM
open Go.RowKit

/-- The operation gives a value that stands for v; memory has only grown. -/
def Yields (P : Program) (φ : Nat → Value) (F : Nat → Prop) (s : Sem Value) (w : World) (v : V) : Prop :=
  ∃ u w', s.run P w = .ok u w' ∧ Blw w.heap.size w w' ∧ vsim φ w' F v u

section
variable {P : Program} {φ : Nat → Value} {F : Nat → Prop} {w : World} {tb : Tb} {σ : Sto} {cx : Cx}

theorem Yields.here {s : Sem Value} {v : V} {u : Value} (h : s.run P w = .ok u w) (hv : vsim φ w F v u) : Yields P φ F s w v := ⟨u, w, h, Blw.refl _ _, hv⟩

theorem addr_add (b o n : Nat) : (⟨b, o, none⟩ : Addr).add n = ⟨b, o + n, none⟩ := by
  unfold Addr.add
  split
  · rename_i h; subst h; rfl
  · rfl

theorem qload_here (ht : TbOk P tb) (hco : Core cx φ σ w) {t : TypeId} {x v : V} {u : Value} (h : qload tb σ t x = some v) (hx : vsim φ w (cx.fr φ σ) x u) :
    ∃ y, (Instr.loadAt t u).run P w = .ok y w ∧ vsim φ w (cx.fr φ σ) v y := by
  unfold qload at h
  split at h
  · rename_i ti c hty
    have T := ht.ty t ti hty
    split at h
    · rename_i cs off hm
      obtain ⟨b, o, rfl, hmem⟩ := memOf_sound hco hm hx
      split at h
      · rename_i hagg
        split at h
        · rename_i hle
          cases h
          obtain ⟨us, h1, h2⟩ := hmem.sub off ti.size
          have hl : us.length = ti.size := by rw [← csims_length h1]; simp; omega
          refine ⟨.agg us.toArray, ?_, us.toArray, rfl, by simpa using h1⟩
          have := run_loadCells_list (P := P) w ⟨b, o + off, none⟩ us (fun j u hj => by rw [addr_add]; exact (h2 j u hj).1)
          rw [hl] at this
          simp [Instr.loadAt, Instr.sureAddr, loadVar, T.run_agg, T.run_size, hagg, this]
        · cases h
      · rename_i hagg
        split at h
        · rename_i c' hc'
          cases h
          obtain ⟨us, h1, h2⟩ := hmem
          obtain ⟨u, hu, hcu⟩ := csims_get h1 hc'
          refine ⟨u, ?_, hcu⟩
          simp [Instr.loadAt, Instr.sureAddr, loadVar, T.run_agg, hagg, load, Sem.run, (h2 off u hu).1]
        · cases h
    · cases h
  · cases h

theorem qload_sound (ht : TbOk P tb) (hco : Core cx φ σ w) {t : TypeId} {x v : V} {u : Value} (h : qload tb σ t x = some v) (hx : vsim φ w (cx.fr φ σ) x u) :
    Yields P φ (cx.fr φ σ) (Instr.loadAt t u) w v :=
  let ⟨_, h1, h2⟩ := qload_here ht hco h hx
  Yields.here h1 h2

theorem qfield_sound (ht : TbOk P tb) {t : TypeId} {x v : V} {k : Nat} {u : Value} (h : qfield tb t x k = some v) (hx : vsim φ w F x u) :
    Yields P φ F (Instr.fieldAt t u k) w v := by
  unfold qfield at h
  split at h
  · rename_i ti c hty
    have T := ht.ty t ti hty
    split at h
    · rename_i fs off sz hd hk
      have ho := T.offs fs hd
      rw [ho, List.getElem?_map] at hk
      cases hf : fs.toList[k]? with
      | none => rw [hf] at hk; cases hk
      | some f =>
        rw [hf] at hk
        simp only [Option.map_some, Option.some.injEq, Prod.mk.injEq] at hk
        obtain ⟨h1, h2⟩ := hk
        have hf' : fs[k]? = some f := by simpa using hf
        split at h
        · cases h
        · rename_i hsz
          have place : ∀ b o, (fieldPlace ⟨b, o, none⟩ f).run P w = .ok ⟨b, o + off, none⟩ w := by
            intro b o
            unfold fieldPlace
            have hi : ∃ i, P.info? f.type = some i ∧ i.size = sz := by
              unfold Program.cellsOf at h2
              cases hi : P.info? f.type with
              | none => rw [hi] at h2; simp at h2; exact absurd h2.symm hsz
              | some i => rw [hi] at h2; simp at h2; exact ⟨i, rfl, h2⟩
            obtain ⟨i, hi, hi'⟩ := hi
            have hrun : (sizeOf f.type).run P w = .ok sz w := by simp [sizeOf, typeInfo, hi, hi']
            simp [hrun, hsz, addr_add, h1]
          have run : ∀ b o, (Instr.fieldAt t (.pointer (some ⟨b, o, none⟩)) k).run P w = .ok (.pointer (some ⟨b, o + off, none⟩)) w := by
            intro b o
            unfold Instr.fieldAt
            simp only [Sem.run_bind, T.run_und, Result.andThen_ok, hd, hf', Instr.sureAddr, Sem.run_pure, place]
          split at h
          · cases h
            simp only [vsim, usim, csim] at hx
            obtain ⟨b, o, rfl, hF, hl, hr⟩ := hx
            exact Yields.here (run _ _) (by simp only [vsim, usim, csim]; exact ⟨b, o, by rw [Nat.add_assoc], hF, hl, hr⟩)
          · cases h
            simp only [vsim, usim, csim] at hx
            obtain ⟨b, hp, rfl⟩ := hx
            exact Yields.here (run _ _) (by simp only [vsim, usim, csim]; exact ⟨b, hp, rfl⟩)
          · cases h
            simp only [vsim, usim, csim] at hx
            obtain ⟨b, n, c, hp, rfl⟩ := hx
            exact Yields.here (run _ _) (by simp only [vsim, usim, csim]; exact ⟨b, n, c, hp, by rw [Nat.add_assoc]⟩)
          · cases h
    · cases h
  · cases h

theorem qindex_sound (ht : TbOk P tb) (hco : Core cx φ σ w) {t : TypeId} {x i v : V} {u q : Value} (h : qindex tb σ t x i = some v) (hx : vsim φ w (cx.fr φ σ) x u) (hi : vsim φ w (cx.fr φ σ) i q) :
    Yields P φ (cx.fr φ σ) (Instr.indexAt t u q) w v := by
  unfold qindex at h
  split at h
  · rename_i ti c k n hty
    have T := ht.ty t ti hty
    simp only [vsim, usim, csim, rep] at hi
    subst hi
    split at h
    · rename_i e hd
      split at h
      · rename_i te sz rows hte
        have TE := ht.ty e te hte
        split at h
        · rename_i hn
          split at h
          · rename_i r hr
            cases h
            simp only [vsim, usim, csim, rep] at hx
            obtain ⟨ao, m, cap, rfl, hm, hc, hmx, hrows⟩ := hx
            have hlt : n.toNat < rows.length := (List.getElem?_eq_some_iff.1 hr).1
            rcases hrows with hrows | ⟨b, o, rfl, hF, hl, hrows⟩
            · subst hrows; simp at hlt
            · have hg := repRows_get hrows hr
              have hlt' : n < (m : Int) := by omega
              refine Yields.here (u := .pointer (some ⟨b, o + n.toNat * te.size, none⟩)) ?_ ?_
              · simp [Instr.indexAt, asIntOf, T.run_und, hd, TE.run_size, hn.1, hlt', addr_add]
              · simp only [vsim, usim, csim]
                exact ⟨b, o + n.toNat * te.size, rfl, hF, hl, hn.2 ▸ hg.2⟩
          · cases h
        · cases h
      · rename_i te s hte
        have TE := ht.ty e te hte
        split at h
        · rename_i sz e' rows hs
          split at h
          · rename_i hn
            cases h
            obtain ⟨_, ho⟩ := hco.objs s _ hs
            simp only [vsim, usim, csim] at hx
            rcases ho with ⟨h0, _⟩ | ⟨b, cap, cur, h0, hp, hl, hm', hh, hs', hc⟩
            · subst h0; simp at hn
            · rw [hp] at hx
              obtain ⟨rfl, _⟩ := hx
              have hlt' : n < (rows.length : Int) := by omega
              refine Yields.here (u := .pointer (some ⟨b, n.toNat * te.size, none⟩)) ?_ ?_
              · simp [Instr.indexAt, asIntOf, T.run_und, hd, TE.run_size, hn.1, hlt', addr_add]
              · simp only [vsim, usim, csim]
                exact ⟨b, _, _, hp, by rw [hn.2.2, Nat.add_zero]⟩
          · cases h
        · cases h
      · cases h
    · rename_i m e hd
      split at h
      · rename_i te s o hte
        have TE := ht.ty e te hte
        split at h
        · rename_i hn
          cases h
          simp only [vsim, usim, csim] at hx
          obtain ⟨b, hp, rfl⟩ := hx
          refine Yields.here (u := .pointer (some ⟨b, o + n.toNat * te.size, none⟩)) ?_ ?_
          · simp [Instr.indexAt, Instr.sureAddr, asIntOf, T.run_und, hd, TE.run_size, hn.1, hn.2, addr_add]
          · simp only [vsim, usim, csim]
            exact ⟨b, hp, rfl⟩
        · cases h
      · cases h
    · cases h
  · cases h

def osimv (φ : Nat → Value) (w : World) (F : Nat → Prop) : Option V → Option Value → Prop
  | none, none => True
  | some x, some u => vsim φ w F x u
  | _, _ => False

theorem qbound_sound {d : Nat} {x : Option V} {u : Option Value} {l : Int} (h : qbound d x = some l) (hx : osimv φ w F x u) :
    (x = none ∧ u = none ∧ l = d) ∨ ∃ k, u = some (.int k l) := by
  cases x with
  | none =>
    cases u with
    | none => simp only [qbound, Option.some.injEq] at h; exact .inl ⟨rfl, rfl, h.symm⟩
    | some u => exact hx.elim
  | some x =>
    cases u with
    | none => exact hx.elim
    | some u =>
      simp only [qbound] at h
      unfold qidx at h
      split at h
      · cases h
        simp only [osimv, vsim, usim, csim, rep] at hx
        exact .inr ⟨_, by rw [hx]⟩
      · cases h

theorem qslice_sound (ht : TbOk P tb) {t : TypeId} {x v : V} {lo hi mx : Option V} {u : Value} {ulo uhi umx : Option Value} (h : qslice tb t x lo hi mx = some v) (hx : vsim φ w F x u)
    (hlo : osimv φ w F lo ulo) (hhi : osimv φ w F hi uhi) (hmx : osimv φ w F mx umx) : Yields P φ F (Instr.sliceAt t u ulo uhi umx) w v := by
  unfold qslice at h
  split at h
  · rename_i ti sz rows hty
    have T := ht.ty t ti hty
    have humx : umx = none := by cases umx with | none => rfl | some _ => exact hmx.elim
    subst humx
    split at h
    · rename_i e l hh hd hl hh'
      split at h
      · rename_i te hte
        have TE := ht.ty e te hte
        split at h
        · rename_i hc
          cases h
          obtain ⟨hsz, h0, h1, h2⟩ := hc
          simp only [vsim, usim, csim, rep] at hx
          obtain ⟨ao, m, cap, rfl, hm, hcap, hmx, hrows⟩ := hx
          have hbl : ∀ (q : Option Value) (d : Int), (∃ k, q = some (.int k d)) → 0 ≤ d → ∀ (y : Nat) (code : BoundsCode), d ≤ y → ∀ v, q = some v → (Instr.sliceBound v y code).run P w = .ok d.toNat w := by
            rintro q d ⟨k, rfl⟩ hd0 y code hdy v hv
            cases hv
            exact run_sliceBound w k d y code hd0 hdy
          have run : (Instr.sliceBounds true m cap ulo uhi none).run P w = .ok (l.toNat, hh.toNat, cap) w := by
            unfold Instr.sliceBounds
            rcases qbound_sound hl hlo with ⟨_, rfl, rfl⟩ | ⟨k, rfl⟩ <;> rcases qbound_sound hh' hhi with ⟨_, rfl, rfl⟩ | ⟨k', rfl⟩
            · simp [hm]
            · simp [run_sliceBound w k' hh cap .sliceAcap (by omega) (by omega)]
            · simp [hm, run_sliceBound w k l rows.length .sliceB (by omega) (by omega)]
            · simp [run_sliceBound w k' hh cap .sliceAcap (by omega) (by omega), run_sliceBound w k l hh.toNat .sliceB (by omega) (by omega)]
          refine Yields.here (u := .slice (if cap = l.toNat then ao else ao.map (·.add (l.toNat * te.size))) (hh.toNat - l.toNat) (cap - l.toNat)) ?_ ?_
          · simp [Instr.sliceAt, Instr.slice, T.run_und, hd, run, TE.run_size]
          · simp only [vsim, usim, csim, rep]
            refine ⟨_, _, _, rfl, by simp; omega, by omega, by omega, ?_⟩
            rcases hrows with hrows | ⟨b, o, rfl, hF, hbl, hrows⟩
            · subst hrows; exact .inl (by simp)
            · by_cases hz : hh.toNat ≤ l.toNat
              · left
                apply List.eq_nil_of_length_eq_zero
                simp
                omega
              · right
                rw [if_neg (by omega)]
                refine ⟨b, o + l.toNat * te.size, by simp [addr_add], hF, hbl, ?_⟩
                have := repRows_drop l.toNat (repRows_take hh.toNat hrows)
                rw [hsz] at this ⊢
                exact this
        · cases h
      · cases h
    · cases h
  · cases h

theorem qun_sound {op : UnOp} {x v : V} {u : Value} (h : qun op x = some v) (hx : vsim φ w F x u) : Yields P φ F (Op.unary op u) w v := by
  unfold qun at h
  split at h
  · cases h
    simp only [vsim, usim, csim, rep] at hx
    subst hx
    exact Yields.here (by simp [Op.unary]; rfl) (by simp [vsim, usim, csim, rep])
  · cases h
    simp only [vsim, usim, csim, rep] at hx
    subst hx
    exact Yields.here (by simp [Op.unary, Op.intArith]; rfl) (by simp [vsim, usim, csim, rep])
  · cases h

theorem qconv_sound (ht : TbOk P tb) {src dst : TypeId} {x v : V} {u : Value} (h : qconv tb src dst x = some v) (hx : vsim φ w F x u) : Yields P φ F (convert src dst u) w v := by
  unfold qconv at h
  split at h
  · rename_i ts td k n hs hd
    have S := ht.ty src ts hs
    have D := ht.ty dst td hd
    split at h
    · rename_i k' hk'
      cases h
      simp only [vsim, usim, csim, rep] at hx
      subst hx
      refine Yields.here (u := .int k' (k'.wrap n)) ?_ (by simp [vsim, usim, csim, rep])
      unfold convert
      simp only [Sem.run_bind, S.run_und, D.run_und, Result.andThen_ok, hk']
      simp [Conv.intToInt]
    · cases h
  · cases h

theorem qextract_sound {x v : V} {i : Nat} {u : Value} (h : qextract x i = some v) (hx : vsim φ w F x u) : Yields P φ F (Instr.extract u i) w v := by
  unfold qextract at h
  split at h
  · rename_i us
    split at h
    · rename_i y hy
      cases h
      simp only [vsim] at hx
      obtain ⟨arr, rfl, hus⟩ := hx
      have key : ∀ (us : List U) (vs : List Value) (i : Nat) (y : U), usims φ w F us vs → us[i]? = some y → ∃ z, vs[i]? = some z ∧ usim φ w F y z := by
        intro us
        induction us with
        | nil => intro vs i y _ hi; simp at hi
        | cons a us ih =>
          intro vs i y hs hi
          obtain ⟨z, r, rfl, h1, h2⟩ := hs
          cases i with
          | zero => simp at hi; subst hi; exact ⟨z, rfl, h1⟩
          | succ i => simp at hi; simpa using ih r i y h2 hi
      obtain ⟨z, hz, hyz⟩ := key us _ i y hus hy
      exact Yields.here (u := z) (by simp [Instr.extract, show arr[i]? = some z from by simpa using hz]) hyz
    · cases h
  · cases h

theorem qmax_sound {x y v : V} {u q : Value} (h : qmax x y = some v) (hx : vsim φ w F x u) (hy : vsim φ w F y q) (ts : Array TypeId) (ty : TypeId) : Yields P φ F (Builtin.max_ ts ty #[u, q]) w v := by
  unfold qmax at h
  split at h
  · cases h
    simp only [vsim, usim, csim, rep] at hx hy
    subst hx hy
    exact Yields.here (by simp [Builtin.max_, Builtin.max2]; rfl) (by simp [vsim, usim, csim, rep])
  · cases h
theorem qmin_sound {x y v : V} {u q : Value} (h : qmin x y = some v) (hx : vsim φ w F x u) (hy : vsim φ w F y q) (ts : Array TypeId) (ty : TypeId) : Yields P φ F (Builtin.min_ ts ty #[u, q]) w v := by
  unfold qmin at h
  split at h
  · cases h
    simp only [vsim, usim, csim, rep] at hx hy
    subst hx hy
    exact Yields.here (by simp [Builtin.min_, Builtin.min2]; rfl) (by simp [vsim, usim, csim, rep])
  · cases h

theorem esims_length {φ : Nat → Value} {w : World} {F : Nat → Prop} : ∀ {es : List (Key × U)} {l : List MapEntry}, esims φ w F es l → es.length = l.length
  | [], l, h => by simp only [esims] at h; subst h; rfl
  | x :: es, l, h => by
    obtain ⟨e, r, rfl, _, _, h⟩ := h
    simp [esims_length h]

theorem qlenB_sound (ht : TbOk P tb) (hco : Core cx φ σ w) {t ty : TypeId} {x v : V} {u : Value} (h : qlenB tb σ t x = some v) (hx : vsim φ w (cx.fr φ σ) x u) :
    Yields P φ (cx.fr φ σ) (Builtin.len_ #[t] ty #[u]) w v := by
  unfold qlenB at h
  split at h
  · rename_i ti hty
    have T := ht.ty t ti hty
    split at h
    · rename_i hf
      cases hq : qlen σ x with
      | none => rw [hq] at h; cases h
      | some n =>
        rw [hq] at h
        cases h
        suffices hs : (Builtin.len_ #[t] ty #[u]).run P w = .ok (goInt n) w by
          exact Yields.here hs (by simp [vsim, usim, csim, rep, goInt])
        unfold lenFits at hf
        unfold qlen at hq
        split at hf <;> first | cases hf | skip
        all_goals (rename_i hd; simp only [vsim, usim, csim, rep] at hx hq)
        · subst hx; cases hq; simp [Builtin.len_, T.run_und, hd]
        · obtain ⟨a, rfl⟩ := hx; cases hq; simp [Builtin.len_, T.run_und, hd]
        · obtain ⟨ao, m, c, rfl, rfl, _⟩ := hx; cases hq; simp [Builtin.len_, T.run_und, hd]
        · rename_i s
          split at hq
          · rename_i sz e rows hs
            cases hq
            obtain ⟨_, ho⟩ := hco.objs s _ hs
            obtain ⟨rfl, _⟩ := hx
            rcases ho with ⟨rfl, a, ha⟩ | ⟨b, cap, cur, h0, hp, hl, hm', hh, hs', hc⟩
            · simp [Builtin.len_, T.run_und, hd, ha]
            · simp [Builtin.len_, T.run_und, hd, hp]
          · cases hq
        · subst hx; cases hq; simp [Builtin.len_, T.run_und, hd]
        · rename_i s
          split at hq
          · rename_i kk es hs
            cases hq
            obtain ⟨b, ents, clk, hp, hh, hc, _⟩ := hco.objs s _ hs
            obtain ⟨rfl, _⟩ := hx
            have hl := esims_length hc
            simp [Builtin.len_, T.run_und, hd, hp, getObj, Sem.run, hh, hl]
          · cases hq
    · cases h
  · cases h

theorem pickV_sound {t : Bool} {a b : V} {u q : Value} (ha : vsim φ w F a u) (hb : vsim φ w F b q) : vsim φ w F (pickV t a b) (if t then u else q) := by
  unfold pickV
  split
  · simp only [vsim, usim, csim, rep] at ha hb
    subst ha hb
    cases t <;> simp [vsim, usim, csim, rep]
  · cases t
    · simpa using hb
    · simpa using ha
end
end Go.AM
