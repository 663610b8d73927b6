/-
  Plain laws: a step of a moved pattern is the moved step; what a found period says.
-/
import Derived.Test.YtdjclgfbggfpaaaGreatDoorPf2
namespace Go.Proofs.YtdjclgfbggfpaaaGreatDoor
open Go.AM Go.Proofs
def newF (t : Tree) (S : Int → Int → Int) : Int → Int → Int := fun x y => (fV t (t.Hood.map fun o => S (x + o.X) (y + o.Y)) (aM .i64 (ak t.Nodes) 1)).getD 0
def shF (a b : Int) (S : Int → Int → Int) : Int → Int → Int := fun x y => S (x - a) (y - b)
def itF (t : Tree) : Nat → (Int → Int → Int) → Int → Int → Int
 | 0, S => S
 | n + 1, S => itF t n (newF t S)
theorem newF_sh (t : Tree) (a b : Int) (S : Int → Int → Int) : newF t (shF a b S) = shF a b (newF t S) := by
 funext x y
 unfold newF shF
 congr 2
 refine List.map_congr_left fun o _ => ?_
 congr 1 <;> omega
theorem itF_sh (t : Tree) (a b : Int) : ∀ (n : Nat) (S : Int → Int → Int), itF t n (shF a b S) = shF a b (itF t n S)
 | 0, _ => rfl
 | n + 1, S => by
  unfold itF
  rw [newF_sh, itF_sh t a b n]
theorem itF_add (t : Tree) : ∀ (m n : Nat) (S : Int → Int → Int), itF t (m + n) S = itF t n (itF t m S)
 | 0, n, S => by rw [Nat.zero_add]; rfl
 | m + 1, n, S => by
  rw [Nat.add_right_comm]
  show itF t (m + n) (newF t S) = _
  rw [itF_add t m n]
  rfl
theorem shF_inj {a b : Int} {S S' : Int → Int → Int} (h : shF a b S = shF a b S') : S = S' := by
 funext x y
 have := congrFun (congrFun h (x + a)) (y + b)
 unfold shF at this
 simpa using this
theorem shF_comm (a b c d : Int) (S : Int → Int → Int) : shF a b (shF c d S) = shF c d (shF a b S) := by
 funext x y
 unfold shF
 congr 1 <;> omega
theorem mem_getS {p : List Cell} (h : Pat p) (c : Cell) : c ∈ p ↔ bO p c.X c.Y = c.S ∧ c.S ≠ 0 := by
 constructor
 ·intro hc
  have := (h.cell c hc).2
  exact ⟨getS_of h.sorted hc, by omega⟩
 ·rintro ⟨h1, h2⟩
  obtain ⟨d, hd, e1, e2, e3⟩ := getS_mem (by rw [h1]; exact h2)
  have : d = c := by
   cases c; cases d
   simp_all
  rw [← this]
  exact hd
def shC (a b : Int) (c : Cell) : Cell := ⟨c.X + a, c.Y + b, c.S⟩
def shL (a b : Int) (l : List Cell) : List Cell := l.map (shC a b)
theorem ix (a b : Int) (p : List Cell) : bO (shL a b p) = shF a b (bO p) := by
 funext x y
 unfold shF bO shL
 rw [List.find?_map]
 have e : (fun c : Cell => c.X == x && c.Y == y) ∘ shC a b = fun c => c.X == x - a && c.Y == y - b := by
  funext c
  unfold shC
  simp only [Function.comp]
  rw [Bool.eq_iff_iff]
  simp only [Bool.and_eq_true, beq_iff_eq]
  omega
 rw [e]
 cases p.find? (fun c => c.X == x - a && c.Y == y - b) <;> rfl
theorem befC_sh (a b : Int) (c d : Cell) : dX (shC a b c) (shC a b d) = dX c d := by
 rw [Bool.eq_iff_iff, eb, eb]
 unfold shC
 dsimp only
 omega
theorem sh_sorted {a b : Int} {p : List Cell} (h : p.Pairwise fun a b => dX a b = true) : (shL a b p).Pairwise fun a b => dX a b = true := by
 unfold shL
 rw [List.pairwise_map]
 exact h.imp fun {c d} hcd => by rw [befC_sh]; exact hcd
def InR (p : List Cell) : Prop := ∀ c ∈ p, bZ c.X c.Y = true
theorem pat_sh {a b : Int} {p : List Cell} (h : Pat p) (hr : InR (shL a b p)) : Pat (shL a b p) := by
 refine ⟨by unfold shL; rw [List.length_map]; exact h.len, fun c hc => ⟨(ib _ _).1 (hr c hc), ?_⟩, sh_sorted h.sorted⟩
 obtain ⟨d, hd, rfl⟩ := List.mem_map.1 hc
 exact (h.cell d hd).2
theorem fit_sh {t : Tree} {a b : Int} {p : List Cell} (h : Fit t p) (hr : InR (shL a b p)) : Fit t (shL a b p) := ⟨h.ok, h.zero, pat_sh h.pat hr, fun c hc => by
 obtain ⟨d, hd, rfl⟩ := List.mem_map.1 hc
 exact h.small d hd⟩
theorem inR_pat {p : List Cell} (h : Pat p) : InR p := fun c hc => (ib _ _).2 (h.cell c hc).1
theorem newS_newF (t : Tree) (p : List Cell) (x y : Int) : dr t p x y = newF t (bO p) x y := rfl
theorem canon_getS {t : Tree} {p y : List Cell} (h : Canon t p y) : bO y = newF t (bO p) := by
 funext x z
 rw [← newS_newF]
 by_cases h0 : dr t p x z = 0
 ·rw [h0]
  refine getS_out fun c hc ⟨e1, e2⟩ => ?_
  obtain ⟨h1, h2⟩ := (h.mem c).1 hc
  rw [e1, e2, h0] at h1
  exact h2 h1
 ·have : (⟨x, z, dr t p x z⟩ : Cell) ∈ y := (h.mem _).2 ⟨rfl, h0⟩
  exact getS_of h.sorted this
theorem stepS_cases {t : Tree} {q : List Cell} (hs : Sz t) (hq : aU t q = 0) : aC t q = ([], 5) ∨ aC t q = ([], 6) ∨ ∃ y, aC t q = (y, 0) ∧ aU t y = 0 ∧ bO y = newF t (bO q) := by
 have hl := (bh hq).pat.len
 rcases (dM hs (q := q) (by omega)).2.2 with ⟨h, _⟩ | ⟨_, h⟩
 ·exact absurd hq h
 ·rcases h with ⟨_, e⟩ | ⟨hno, y, hy, e⟩
  ·exact .inl e
  ·cases hg : gtB (ak y) 5000 with
   | true => rw [hg] at e; exact .inr (.inl e)
   | false =>
    rw [hg] at e
    refine .inr (.inr ⟨y, e, ?_, canon_getS hy⟩)
    have := cp hs hq (by rw [e]; rfl)
    rw [e] at this
    exact this
theorem stepS_to {t : Tree} {q y : List Cell} (hs : Sz t) (hq : aU t q = 0) (hy : Pat y) (h : bO y = newF t (bO q)) : aC t q = (y, 0) := by
 have hl := (bh hq).pat.len
 have hm : ∀ c, c ∈ y ↔ c.S = dr t q c.X c.Y ∧ c.S ≠ 0 := fun c => by
  rw [mem_getS hy, h, ← newS_newF]
  exact ⟨fun ⟨a, b⟩ => ⟨a.symm, b⟩, fun ⟨a, b⟩ => ⟨a.symm, b⟩⟩
 have hC : Canon t q y := ⟨hy.sorted, hm⟩
 have hno : ¬ Out t q := fun ⟨x, z, hn, hp⟩ => by
  have := inR_pat hy ⟨x, z, dr t q x z⟩ ((hm _).2 ⟨rfl, hn⟩)
  dsimp only at this
  rw [hp] at this
  cases this
 have hS : Stp t q (y, 0) := .inr ⟨hno, y, hC, by
  have : gtB (ak y) 5000 = false := decide_eq_false (by have := hy.len; unfold ak; omega)
  rw [this]
  rfl⟩
 rcases (dM hs (q := q) (by omega)).2.2 with ⟨h, _⟩ | ⟨_, h⟩
 ·exact absurd hq h
 ·exact h.uniq hS
theorem stepS_sh {t : Tree} {q y : List Cell} {a b : Int} (hs : Sz t) (hq : aU t q = 0) (h : aC t q = (y, 0)) (hr : InR (shL a b q)) :
  aC t (shL a b q) = ([], 5) ∨ (aC t (shL a b q) = (shL a b y, 0) ∧ InR (shL a b y)) := by
 have hf := bh hq
 have hq' : aU t (shL a b q) = 0 := fitE_of (fit_sh hf hr) (fitE_quiet hq)
 obtain ⟨hy, hg⟩ : aU t y = 0 ∧ bO y = newF t (bO q) := by
  rcases stepS_cases hs hq with e | e | ⟨y', e, h1, h2⟩
  ·rw [h] at e; cases e
  ·rw [h] at e; cases e
  ·rw [h] at e; cases e; exact ⟨h1, h2⟩
 by_cases hin : InR (shL a b y)
 ·right
  refine ⟨stepS_to hs hq' (pat_sh (bh hy).pat hin) ?_, hin⟩
  rw [ix, ix, newF_sh, hg]
 ·left
  have hl' := (bh hq').pat.len
  rcases (dM hs (q := shL a b q) (by omega)).2.2 with ⟨h, _⟩ | ⟨_, h⟩
  ·exact absurd hq' h
  ·rcases h with ⟨_, e⟩ | ⟨hno, _⟩
   ·exact e
   ·exfalso
    apply hin
    intro c hc
    cases hp : bZ c.X c.Y with
    | true => rfl
    | false =>
     exfalso
     apply hno
     refine ⟨c.X, c.Y, ?_, hp⟩
     rw [newS_newF, ix, newF_sh, ← hg, ← ix]
     have hmem := getS_of (sh_sorted (a := a) (b := b) (bh hy).pat.sorted) hc
     rw [hmem]
     obtain ⟨d, hd, rfl⟩ := List.mem_map.1 hc
     have := ((bh hy).pat.cell d hd).2
     unfold shC
     dsimp only
     omega
theorem iterS_sh {t : Tree} {a b : Int} (hs : Sz t) : ∀ (n : Nat) (q y : List Cell), aU t q = 0 → aT t n q = (y, 0) → InR (shL a b q) →
  aT t n (shL a b q) = ([], 5) ∨ (aT t n (shL a b q) = (shL a b y, 0) ∧ InR (shL a b y))
 | 0, q, y, _, h, hr => by
  cases h
  exact .inr ⟨rfl, hr⟩
 | n + 1, q, y, hq, h, hr => by
  unfold aT at h ⊢
  cases he : neB (aC t q).2 0 with
  | true =>
   rw [he] at h
   have h0 : (aC t q).2 ≠ 0 := by simpa [neB] using he
   simp only [cond_true, Prod.mk.injEq] at h
   exact absurd h.2 h0
  | false =>
   rw [he] at h
   have h0 : (aC t q).2 = 0 := by simpa [neB] using he
   have hst : aC t q = ((aC t q).1, 0) := by rw [← h0]
   rcases stepS_sh (a := a) (b := b) hs hq hst hr with e | ⟨e, hr'⟩
   ·rw [e]
    exact .inl rfl
   ·rw [e]
    have en : neB (shL a b (aC t q).1, (0 : Int)).2 0 = false := rfl
    rw [en]
    exact iterS_sh hs n _ y (cp hs hq h0) h hr'
theorem fh {t : Tree} (hs : Sz t) : ∀ (n : Nat) (q y : List Cell), aU t q = 0 → aT t n q = (y, 0) → aU t y = 0 ∧ bO y = itF t n (bO q)
 | 0, q, y, hq, h => by
  cases h
  exact ⟨hq, rfl⟩
 | n + 1, q, y, hq, h => by
  unfold aT at h
  cases he : neB (aC t q).2 0 with
  | true =>
   rw [he] at h
   have h0 : (aC t q).2 ≠ 0 := by simpa [neB] using he
   simp only [cond_true, Prod.mk.injEq] at h
   exact absurd h.2 h0
  | false =>
   rw [he] at h
   have h0 : (aC t q).2 = 0 := by simpa [neB] using he
   have hf := cp hs hq h0
   obtain ⟨h1, h2⟩ := fh hs n _ y hf h
   refine ⟨h1, ?_⟩
   have e2 : itF t (n + 1) (bO q) = itF t n (newF t (bO q)) := rfl
   rw [h2, e2]
   rcases stepS_cases hs hq with e | e | ⟨y', e, _, h3⟩
   ·rw [e] at h0; cases h0
   ·rw [e] at h0; cases h0
   ·rw [e, ← h3]
theorem i4 (t : Tree) : ∀ (m n : Nat) (q y : List Cell), aT t m q = (y, 0) → aT t (m + n) q = aT t n y
 | 0, n, q, y, h => by
  cases h
  rw [Nat.zero_add]
 | m + 1, n, q, y, h => by
  rw [Nat.add_right_comm]
  have e1 : aT t (m + n + 1) q = bif neB (aC t q).2 0 then ([], (aC t q).2) else aT t (m + n) (aC t q).1 := rfl
  rw [e1]
  unfold aT at h
  cases he : neB (aC t q).2 0 with
  | true =>
   rw [he] at h
   have h0 : (aC t q).2 ≠ 0 := by simpa [neB] using he
   simp only [cond_true, Prod.mk.injEq] at h
   exact absurd h.2 h0
  | false =>
   rw [he] at h
   exact i4 t m n _ y h
theorem shL_home {p y : List Cell} (hne : p ≠ []) (h : fA y = fA p) : y = shL ((hdC y).X - (hdC p).X) ((hdC y).Y - (hdC p).Y) p := by
 cases p with
 | nil => exact absurd rfl hne
 | cons c0 p =>
  cases y with
  | nil => simp [fA] at h
  | cons d0 y =>
   have e1 : hdC (c0 :: p) = c0 := rfl
   have e2 : hdC (d0 :: y) = d0 := rfl
   rw [e1, e2]
   refine List.ext_getElem? fun i => ?_
   have h1 := congrArg (·[i]?) h
   rw [homeL_get (c0 := d0) rfl, homeL_get (c0 := c0) rfl] at h1
   unfold shL
   rw [List.getElem?_map]
   cases hy : (d0 :: y)[i]? with
   | none =>
    rw [hy] at h1
    cases hp : (c0 :: p)[i]? with
    | none => rfl
    | some c => rw [hp] at h1; cases h1
   | some d =>
    rw [hy] at h1
    cases hp : (c0 :: p)[i]? with
    | none => rw [hp] at h1; cases h1
    | some c =>
     rw [hp] at h1
     simp only [Option.map_some, Option.some.injEq, relC, Cell.mk.injEq] at h1
     simp only [Option.map_some, Option.some.injEq]
     unfold shC
     cases d; cases c
     simp only [Cell.mk.injEq] at h1 ⊢
     omega
theorem home_shL (a b : Int) (p : List Cell) : fA (shL a b p) = fA p := by
 cases p with
 | nil => rfl
 | cons c p =>
  show (shC a b c :: shL a b p).map (relC (shC a b c)) = (c :: p).map (relC c)
  have e : ∀ d : Cell, relC (shC a b c) (shC a b d) = relC c d := fun d => by
   unfold relC shC
   dsimp only
   congr 1 <;> omega
  simp only [List.map_cons, e, List.cons.injEq, true_and]
  unfold shL
  rw [List.map_map]
  exact List.map_congr_left fun d _ => e d
theorem shL_ne {a b : Int} {p : List Cell} (h : p ≠ []) : shL a b p ≠ [] := fun e => h (List.map_eq_nil_iff.1 e)
structure Per (t : Tree) (p : List Cell) (m : Motion) (P : Nat) : Prop where
 fit : aU t p = 0
 ne : p ≠ []
 is : m.Period = P
 pos : 1 ≤ P
 here : aT t P p = (shL m.DX m.DY p, 0)
 before : ∀ g, 1 ≤ g → g < P → ∃ y, aT t g p = (y, 0) ∧ mvB p y = false
theorem findS_per {t : Tree} {p : List Cell} (hs : Sz t) : ∀ (n : Nat) (q : List Cell) (g : Nat) r, aU t q = 0 → aT t g p = (q, 0) → (∀ j, 1 ≤ j → j ≤ g → ∃ y, aT t j p = (y, 0) ∧ mvB p y = false) →
  dW t p n q ((g + 1 : Nat) : Int) = .inl r → r.2.2 = 0 → ∃ P, r.1.Period = (P : Nat) ∧ g + 1 ≤ P ∧ P ≤ g + n ∧ p ≠ [] ∧ r.2.1 = true ∧ aT t P p = (shL r.1.DX r.1.DY p, 0) ∧ ∀ j, 1 ≤ j → j < P → ∃ y, aT t j p = (y, 0) ∧ mvB p y = false
 | 0, _, _, r, _, _, _, h, _ => by cases h
 | n + 1, q, g, r, hq, hi, hb, h, h0 => by
  unfold dW at h
  cases he : neB (aC t q).2 0 with
  | true =>
   rw [he] at h
   cases h
   have : (aC t q).2 ≠ 0 := by simpa [neB] using he
   exact absurd h0 this
  | false =>
   rw [he] at h
   have e0 : (aC t q).2 = 0 := by simpa [neB] using he
   have hst : aC t q = ((aC t q).1, 0) := by rw [← e0]
   have hi' : aT t (g + 1) p = ((aC t q).1, 0) := by
    rw [i4 t g 1 p q hi]
    unfold aT
    rw [he]
    rfl
   cases hm : mvB p (aC t q).1 with
   | true =>
    rw [hm] at h
    cases h
    have hm' := hm
    unfold mvB at hm'
    rw [decide_eq_true_eq] at hm'
    refine ⟨g + 1, rfl, by omega, by omega, hm'.1, rfl, ?_, fun j h1 h2 => hb j h1 (by omega)⟩
    rw [hi']
    congr 1
    exact shL_home hm'.1 hm'.2
   | false =>
    rw [hm] at h
    simp only [cond_false] at h
    rw [show (((g + 1 : Nat) : Int) + 1) = ((g + 1 + 1 : Nat) : Int) by omega] at h
    obtain ⟨P, h1, h2, h3, h4⟩ := findS_per hs n _ (g + 1) r (cp hs hq e0) hi' (fun j h1 h2 => by
     by_cases hj : j = g + 1
     ·subst hj
      exact ⟨_, hi', hm⟩
     ·exact hb j h1 (by omega)) h h0
    exact ⟨P, h1, by omega, by omega, h4⟩
theorem findA_per {t : Tree} {p : List Cell} {most : Int} (hs : Sz t) (h0 : (aV t p most).2.2 = 0) (h1 : (aV t p most).2.1 = true) : ∃ P : Nat, Per t p (aV t p most).1 P ∧ (P : Int) ≤ most := by
 unfold aV at *
 cases hn : neB (aU t p) 0 with
 | true => rw [hn] at h1; cases h1
 | false =>
  rw [hn] at h0 h1
  have hp : aU t p = 0 := by simpa [neB] using hn
  simp only [cond_false] at h0 h1 ⊢
  cases hm : !(decide (1 ≤ most) && decide (most ≤ 64)) with
  | true => rw [hm] at h1; cases h1
  | false =>
   rw [hm] at h0 h1
   simp only [cond_false] at h0 h1 ⊢
   cases hf : dW t p most.toNat p 1 with
   | inr u => rw [hf] at h1; cases h1
   | inl r =>
    rw [hf] at h0 h1
    dsimp only at h0 h1 ⊢
    obtain ⟨P, e1, e2, e3, e4, _, e5, e6⟩ := findS_per hs most.toNat p 0 r hp rfl (fun j a b => by omega) hf h0
    simp only [Bool.not_eq_false', Bool.and_eq_true, decide_eq_true_eq] at hm
    exact ⟨P, ⟨hp, e4, e1, by omega, e5, e6⟩, by omega⟩
end Go.Proofs.YtdjclgfbggfpaaaGreatDoor
