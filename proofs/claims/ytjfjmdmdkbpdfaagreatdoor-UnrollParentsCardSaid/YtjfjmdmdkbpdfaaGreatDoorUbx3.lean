/- Plain laws: the formula of a grid's predecessors: program and reference. -/
import Derived.Test.YtjfjmdmdkbpdfaaGreatDoorUbx2
namespace Go.Proofs.YtjfjmdmdkbpdfaaGreatDoor
open Go.AM Go.Proofs
structure RT (n b : Nat) (t : Tree) (ns : List Node) : Prop where
 sb : SB n b
 st : t.States = (n : Int)
 ok : dG t = true
 tok : TOk n t
 red : TOk n ⟨t.States, t.Hood, ns⟩
 P : m_reduce_Reduce t = some ⟨t.States, t.Hood, ns⟩
 R : m_R13_Reduce t = some ⟨t.States, t.Hood, ns⟩
theorem rt_of {t : Tree} (hok : dG t = true) : ∃ n b ns, RT n b t ns := by
 obtain ⟨n, h⟩ := ok_tree hok
 obtain ⟨b, B⟩ := sb_of h.n2 h.n8
 obtain ⟨L, i, u, hi, hL, hr, _⟩ := h.rep
 obtain ⟨h1, h2⟩ := reduce_is hok h hi hL hr
 exact ⟨n, b, _, B, h.st, hok, h, (h.red hL hr).1, h1, h2⟩
theorem startP {n b : Nat} {t : Tree} {ns : List Node} (R : RT n b t ns) : m_unroll_start t = some ((n : Int), t.Hood, ns, (b : Int)) := by
 unfold m_unroll_start
 rw [R.P, PC.bits_eq]
 simp only [aQ]
 rw [R.st, R.sb.bits]
theorem wt_free {n b : Nat} {t : Tree} {ns : List Node} (R : RT n b t ns) {in_ : List SV} (hl : in_.length = t.Hood.length) (hv : ∀ v ∈ in_, VOk n b v /\ v.2.length = b) : WT n b t.Hood.length in_ ns := by
 have h := R.red
 obtain ⟨i, x, e1, e2, _⟩ := h.root
 refine ⟨R.sb.n2, R.sb.n8, R.sb.b1, R.sb.b3, h.h25, h.nodes, by show 1 <= ns.length; dsimp only at e1; omega, h.good, h.lev, hl, fun v hv' => (hv v hv').1, fun x hx _ e => ?_⟩
 obtain ⟨j, hj⟩ := List.mem_iff_getElem?.1 hx
 have h1 := h.good.lev j x hj
 have h2 := h.lev x hx
 have hH := h.h1
 dsimp only at h2 hH
 unfold rdS at e
 have hlt : t.Hood.length - x.Level.toNat < in_.length := by omega
 rw [List.getD_eq_getElem?_getD, List.getElem?_eq_getElem hlt] at e
 have := (hv _ (List.getElem_mem hlt)).2
 have hb := R.sb.b1
 simp only [Option.getD_some] at e
 rw [e] at this
 simp at this
 omega
def endC (u : SV) (s : Int) : List (List Int) := bif isE u.2 then (bif neB u.1 s then [[]] else []) else fixS u.2 s
def parC (b H : Nat) (ins : Int -> Int -> List SV) (ns : List Node) (w : Nat) (cells : List Int) (i : Nat) (st : Int × List (List Int)) : Int × List (List Int) :=
 let T := bA b H (ins (i % w : Nat) (i / w : Nat)) ns (st.1, st.2, [])
 (T.1, T.2.1 ++ endC (T.2.2.getLastD (0, [])) (cells.getD i 0))
def dq (b H : Nat) (ins : Int -> Int -> List SV) (ns : List Node) (w : Nat) (cells : List Int) (st : Int × List (List Int)) : Nat -> Int × List (List Int)
 | 0 => st
 | i + 1 => parC b H ins ns w cells i (dq b H ins ns w cells st i)
section
variable {n b H : Nat} {ins : Int -> Int -> List SV} {ns : List Node} {w : Nat} {cells : List Int} {st : Int × List (List Int)}
theorem parC_mono (i : Nat) (st : Int × List (List Int)) : st.1 <= (parC b H ins ns w cells i st).1 /\ st.2.length <= (parC b H ins ns w cells i st).2.length /\ (bA b H (ins (i % w : Nat) (i / w : Nat)) ns (st.1, st.2, [])).1 <= (parC b H ins ns w cells i st).1 /\ (bA b H (ins (i % w : Nat) (i / w : Nat)) ns (st.1, st.2, [])).2.1.length <= (parC b H ins ns w cells i st).2.length := by
 have := tree_mono b H (ins (i % w : Nat) (i / w : Nat)) ns (st.1, st.2, [])
 unfold parC
 simp only [List.length_append]
 dsimp only at this
 omega
theorem par_mono (i : Nat) : ∀ k, (dq b H ins ns w cells st i).1 <= (dq b H ins ns w cells st (i + k)).1 /\ (dq b H ins ns w cells st i).2.length <= (dq b H ins ns w cells st (i + k)).2.length
 | 0 => ⟨Int.le_refl _, Nat.le_refl _⟩
 | k + 1 => by
  have h1 := par_mono i k
  have h2 := parC_mono (b := b) (H := H) (ins := ins) (ns := ns) (w := w) (cells := cells) (i + k) (dq b H ins ns w cells st (i + k))
  show _ <= (parC b H ins ns w cells (i + k) (dq b H ins ns w cells st (i + k))).1 /\ _ <= (parC b H ins ns w cells (i + k) (dq b H ins ns w cells st (i + k))).2.length
  omega
theorem par_unfit {i m : Nat} (hi : i <= m) (h : cj (dq b H ins ns w cells st i).1 (dq b H ins ns w cells st i).2 = false) : cj (dq b H ins ns w cells st m).1 (dq b H ins ns w cells st m).2 = false := by
 have := par_mono (b := b) (H := H) (ins := ins) (ns := ns) (w := w) (cells := cells) (st := st) i (m - i)
 rw [show i + (m - i) = m by omega] at this
 cases hf : cj (dq b H ins ns w cells st m).1 (dq b H ins ns w cells st m).2 with
 | false => rfl
 | true => rw [ff this.1 this.2 hf] at h; cases h
theorem par_tree_unfit {i m : Nat} (hi : i + 1 <= m) (h : cj (bA b H (ins (i % w : Nat) (i / w : Nat)) ns ((dq b H ins ns w cells st i).1, (dq b H ins ns w cells st i).2, [])).1 (bA b H (ins (i % w : Nat) (i / w : Nat)) ns ((dq b H ins ns w cells st i).1, (dq b H ins ns w cells st i).2, [])).2.1 = false) : cj (dq b H ins ns w cells st m).1 (dq b H ins ns w cells st m).2 = false := by
 refine par_unfit hi ?_
 have := parC_mono (b := b) (H := H) (ins := ins) (ns := ns) (w := w) (cells := cells) i (dq b H ins ns w cells st i)
 cases hf : cj (dq b H ins ns w cells st (i + 1)).1 (dq b H ins ns w cells st (i + 1)).2 with
 | false => rfl
 | true => rw [ff this.2.2.1 this.2.2.2 hf] at h; cases h
end
theorem endC_len {n b : Nat} {u : SV} (hu : VOk n b u) (hb : b <= 3) (s : Int) : (endC u s).length <= 3 := by
 unfold endC
 cases he : isE u.2 with
 | true => cases neB u.1 s <;> simp
 | false =>
  rw [cond_false, fixS_len, vok_len hu he]
  exact hb
theorem last_ok {n b H : Nat} {in_ : List SV} {ns : List Node} {v : Int} {cs : List (List Int)} (W : WT n b H in_ ns) : VOk n b ((bA b H in_ ns (v, cs, [])).2.2.getLastD (0, [])) := by
 have T := TI.at_ W (TI.init (n := n) (b := b) (n0 := v) (cs := cs)) _ (Nat.le_refl _)
 rw [List.take_length] at T
 exact T.ok _ (getLastD_mem (by rw [T.of_]; exact W.ne))
theorem one_cell (b H : Nat) (ins : Int -> Int -> List SV) (ns : List Node) (X Y : Int) (v : Int) (cs : List (List Int)) :
  cZ b H ins (fun _ => ns) X Y 1 (v, cs, []) 1 = ((bA b H (ins X Y) ns (v, cs, [])).1, (bA b H (ins X Y) ns (v, cs, [])).2.1, [(bA b H (ins X Y) ns (v, cs, [])).2.2.getLastD (0, [])]) := by
 show cellN b H ins (fun _ => ns) X Y 1 0 (v, cs, []) = _
 unfold cellN
 simp
theorem idiv_nat {i w : Nat} (hw : 1 <= w) (hi : i < 1000000000) : irem (i : Int) (w : Int) = some ((i % w : Nat) : Int) /\ iquo .i64 (i : Int) (w : Int) = some ((i / w : Nat) : Int) := by
 constructor
 ·unfold irem
  rw [if_neg (by omega)]
  congr 1
 ·unfold iquo
  rw [if_neg (by omega)]
  congr 1
  have h2 := Nat.div_le_self i w
  have z1 := Int.natCast_nonneg (i / w)
  rw [show (i : Int).tdiv (w : Int) = ((i / w : Nat) : Int) from rfl, i64_in (by omega)]
section
variable {n b : Nat} {t : Tree} {ns : List Node} {g : Grid} {w h r : Nat}
structure GL_ (n b : Nat) (t : Tree) (ns : List Node) (g : Grid) (w h r : Nat) : Prop where
 R : RT n b t ns
 G : GOk g w h
 r2 : r <= 2
 pts : ∀ d ∈ t.Hood, -(r : Int) <= d.X /\ d.X <= r /\ -(r : Int) <= d.Y /\ d.Y <= r
 sz : (w + 2 * r) * (h + 2 * r) <= 16
theorem GL_.ins (A : GL_ n b t ns g w h r) {i : Nat} (hi : i < w * h) :
  inS (-(r : Int)) (-(r : Int)) (w + 2 * r) (h + 2 * r) (bB b ((w + 2 * r) * (h + 2 * r))) t.Hood (i % w : Nat) (i / w : Nat) =
   t.Hood.map fun d => (bB b ((w + 2 * r) * (h + 2 * r))).getD ((((i / w : Nat) : Int) + d.Y + r).toNat * (w + 2 * r) + (((i % w : Nat) : Int) + d.X + r).toNat) (0, []) := by
 have hw := A.G.w1
 have h1 : i % w < w := Nat.mod_lt _ (by omega)
 have h2 : i / w < h := Nat.div_lt_of_lt_mul hi
 have z1 := Int.natCast_nonneg (i / w)
 unfold inS
 apply List.map_congr_left
 intro d hd
 obtain ⟨d1, d2, d3, d4⟩ := A.pts d hd
 unfold atS
 rw [inB_iff.2 ⟨by omega, by omega, by omega, by omega⟩, cond_true]
 rw [show ((i / w : Nat) : Int) + d.Y - -(r : Int) = ((i / w : Nat) : Int) + d.Y + r by omega, show ((i % w : Nat) : Int) + d.X - -(r : Int) = ((i % w : Nat) : Int) + d.X + r by omega]
theorem GL_.idx (A : GL_ n b t ns g w h r) {i : Nat} (hi : i < w * h) {d : Point} (hd : d ∈ t.Hood) : (((i / w : Nat) : Int) + d.Y + r).toNat * (w + 2 * r) + (((i % w : Nat) : Int) + d.X + r).toNat < (w + 2 * r) * (h + 2 * r) /\ 0 <= ((i / w : Nat) : Int) + d.Y + r /\ 0 <= ((i % w : Nat) : Int) + d.X + r := by
 have hw := A.G.w1
 have h1 : i % w < w := Nat.mod_lt _ (by omega)
 have h2 : i / w < h := Nat.div_lt_of_lt_mul hi
 have z1 := Int.natCast_nonneg (i / w)
 obtain ⟨d1, d2, d3, d4⟩ := A.pts d hd
 exact ⟨lin_lt (by omega) (by omega), by omega, by omega⟩
theorem GL_.wt (A : GL_ n b t ns g w h r) {i : Nat} (hi : i < w * h) : WT n b t.Hood.length (inS (-(r : Int)) (-(r : Int)) (w + 2 * r) (h + 2 * r) (bB b ((w + 2 * r) * (h + 2 * r))) t.Hood (i % w : Nat) (i / w : Nat)) ns := by
 refine wt_free A.R (by unfold inS; rw [List.length_map]) fun v hv => ?_
 rw [A.ins hi] at hv
 obtain ⟨d, hd, rfl⟩ := List.mem_map.1 hv
 obtain ⟨h1, _, _⟩ := A.idx hi hd
 rw [List.getD_eq_getElem?_getD, List.getElem?_eq_getElem (by rw [cJ]; exact h1)]
 exact cellsV_ok _ (List.getElem_mem _)
theorem GL_.w16 (A : GL_ n b t ns g w h r) : w + 2 * r <= 16 /\ h + 2 * r <= 16 /\ w * h <= 16 := by
 have h1 := A.G.w1
 have h2 := A.G.h1
 have h3 := A.sz
 have a1 := Nat.mul_le_mul_left (w + 2 * r) (show 1 <= h + 2 * r by omega)
 have a2 := Nat.mul_le_mul_right (h + 2 * r) (show 1 <= w + 2 * r by omega)
 have a3 : w * h <= (w + 2 * r) * (h + 2 * r) := Nat.mul_le_mul (by omega) (by omega)
 omega
def parF (b : Nat) (t : Tree) (ns : List Node) (g : Grid) (n w h r : Nat) : Int × List (List Int) :=
 dq b t.Hood.length (inS (-(r : Int)) (-(r : Int)) (w + 2 * r) (h + 2 * r) (bB b ((w + 2 * r) * (h + 2 * r))) t.Hood) ns w g.Cells ((((w + 2 * r) * (h + 2 * r) : Nat) : Int) * b, co n b ((w + 2 * r) * (h + 2 * r))) (w * h)
theorem vars0 (A : GL_ n b t ns g w h r) : 0 <= ((((w + 2 * r) * (h + 2 * r) : Nat) : Int) * b) /\ ((((w + 2 * r) * (h + 2 * r) : Nat) : Int) * b) <= 48 /\ (co n b ((w + 2 * r) * (h + 2 * r))).length <= 128 := by
 have h1 := A.sz
 have h3 := A.R.sb.b3
 have : (w + 2 * r) * (h + 2 * r) * b <= 16 * 3 := Nat.mul_le_mul h1 h3
 have e : (((w + 2 * r) * (h + 2 * r) * b : Nat) : Int) = (((w + 2 * r) * (h + 2 * r) : Nat) : Int) * b := Int.natCast_mul _ _
 have := cellsC_len (n := n) h3 ((w + 2 * r) * (h + 2 * r))
 omega
theorem par_bound (A : GL_ n b t ns g w h r) : ∀ i, i <= w * h -> let F := dq b t.Hood.length (inS (-(r : Int)) (-(r : Int)) (w + 2 * r) (h + 2 * r) (bB b ((w + 2 * r) * (h + 2 * r))) t.Hood) ns w g.Cells ((((w + 2 * r) * (h + 2 * r) : Nat) : Int) * b, co n b ((w + 2 * r) * (h + 2 * r)))
  0 <= (F i).1 /\ (F i).1 <= 48 + 12288 * i /\ (F i).2.length <= 128 + 196611 * i
 | 0, _ => by
  have := vars0 A
  dsimp only [dq]
  omega
 | i + 1, hi => by
  have ih := par_bound A i (by omega)
  have w1 := A.wt (i := i) (by omega)
  dsimp only at ih ⊢
  rw [dq]
  generalize dq b t.Hood.length (inS (-(r : Int)) (-(r : Int)) (w + 2 * r) (h + 2 * r) (bB b ((w + 2 * r) * (h + 2 * r))) t.Hood) ns w g.Cells ((((w + 2 * r) * (h + 2 * r) : Nat) : Int) * b, co n b ((w + 2 * r) * (h + 2 * r))) i = st at ih
  have T := TI.at_ w1 (TI.init (n := n) (b := b) (n0 := st.1) (cs := st.2)) _ (Nat.le_refl _)
  rw [List.take_length] at T
  have t1 := T.lo
  have t2 := T.hi
  have t3 := T.cs
  have t4 := w1.len
  have t5 := endC_len (last_ok w1 (v := st.1) (cs := st.2)) A.R.sb.b3 (g.Cells.getD i 0)
  unfold parC
  simp only [List.length_append]
  omega
theorem parP (A : GL_ n b t ns g w h r) (hr : m_hood_Radius t.Hood = some (r : Int)) (hg : ef g = true) (hc : cU (fun _ s => geB s t.States) g.Cells 0 = false) :
  m_unroll_Parents t g = some (bif cj (parF b t ns g n w h r).1 (parF b t ns g n w h r).2 then (⟨(parF b t ns g n w h r).1, (parF b t ns g n w h r).2⟩, (((w + 2 * r) * (h + 2 * r) : Nat) : Int) * b, 0) else (⟨0, []⟩, 0, 6)) := by
 obtain ⟨k1, k2, k3⟩ := A.w16
 have hr2 := A.r2
 have hlen := A.G.len
 have hgW := A.G.W
 have hmul : bq .i64 ((w + 2 * r : Nat) : Int) ((h + 2 * r : Nat) : Int) = (((w + 2 * r) * (h + 2 * r) : Nat) : Int) := by
  have := A.sz
  have e := Int.natCast_mul (w + 2 * r) (h + 2 * r)
  rw [cW (by omega), e]
 have e1 : bf .i64 g.W (bq .i64 2 (r : Int)) = ((w + 2 * r : Nat) : Int) := by rw [A.G.W, cW (by omega), bQ (by omega)]; omega
 have e2 : bf .i64 g.H (bq .i64 2 (r : Int)) = ((h + 2 * r : Nat) : Int) := by rw [A.G.H, cW (by omega), bQ (by omega)]; omega
 have e3 : bE .i64 (r : Int) = -(r : Int) := ineg_in (by omega)
 have hsz := sz_of A.R.tok
 have hcon : m_slices_ContainsFunc_int_int_unroll_Parents_1 g.Cells t = some false := by
  unfold m_slices_ContainsFunc_int_int_unroll_Parents_1 m_slices_IndexFunc_int_int_unroll_Parents_1
  obtain ⟨o, ho, hq⟩ := loop_find (b := b_slices_IndexFunc_int_int_unroll_Parents_1_1 g.Cells t) g.Cells (fun _ s => geB s t.States) (by omega) (fun i x hx => by
   unfold b_slices_IndexFunc_int_int_unroll_Parents_1_1 m_unroll_Parents_1
   dsimp only
   rw [be, decide_eq_true (br hx), cond_true, bg, hx, bw (by have := br hx; omega)]
   simp only [aQ, bX]) (by
   unfold b_slices_IndexFunc_int_int_unroll_Parents_1_1
   dsimp only
   rw [be, decide_eq_false (Nat.lt_irrefl _)]
   rfl)
  rw [ho]
  rcases hq with ⟨h1, _⟩ | ⟨_, rfl⟩
  ·rw [hc] at h1; cases h1
  ·rfl
 unfold m_unroll_Parents
 rw [tree_eq hsz, A.R.ok, grid_eq (by omega), hg, hcon, hr]
 simp only [aQ, cr, Bool.not_true, cond_false]
 rw [e1, e2, e3, hmul, show gtB (((w + 2 * r) * (h + 2 * r) : Nat) : Int) 16 = false from decide_eq_false (by have := A.sz; omega), cond_false, startP A.R]
 simp only [aQ]
 rw [freeP A.R.sb (m := (w + 2 * r) * (h + 2 * r)) hmul (by have := A.sz; omega)]
 simp only [aQ]
 obtain ⟨F, hF⟩ : ∃ F, F = dq b t.Hood.length (inS (-(r : Int)) (-(r : Int)) (w + 2 * r) (h + 2 * r) (bB b ((w + 2 * r) * (h + 2 * r))) t.Hood) ns w g.Cells ((((w + 2 * r) * (h + 2 * r) : Nat) : Int) * b, co n b ((w + 2 * r) * (h + 2 * r))) := ⟨_, rfl⟩
 have hPF : parF b t ns g n w h r = F (w * h) := by rw [hF]; rfl
 have hbd := fun i hi => par_bound A i hi
 rw [<- hF] at hbd
 dsimp only at hbd
 rw [hPF]
 obtain ⟨o, ho, hq⟩ := bH (b := b_unroll_Parents_1 g (r : Int) ((n : Int), t.Hood, ns, (b : Int)) ((bB b ((w + 2 * r) * (h + 2 * r))).map pv, co n b ((w + 2 * r) * (h + 2 * r)), (((w + 2 * r) * (h + 2 * r) : Nat) : Int) * b)) (n := w * h) (s := (0, [], (((w + 2 * r) * (h + 2 * r) : Nat) : Int) * b, co n b ((w + 2 * r) * (h + 2 * r))))
  (fun i st => ∃ mp, st = ((i : Int), mp, (F i).1, (F i).2)) (fun o => (∃ mp, o = .inr (mp, (F (w * h)).1, (F (w * h)).2)) \/ (o = .inl (⟨0, []⟩, 0, 6) /\ cj (F (w * h)).1 (F (w * h)).2 = false)) (by omega) ⟨[], by rw [hF]; rfl⟩
  (fun i st hi ⟨mp, e⟩ => by
   subst e
   have hci : g.Cells[i]? = some (g.Cells.getD i 0) := by rw [List.getD_eq_getElem?_getD, List.getElem?_eq_getElem (by omega)]; rfl
   obtain ⟨q1, q2⟩ := idiv_nat (i := i) A.G.w1 (by omega)
   have hw1 := A.G.w1
   have hml : i % w < w := Nat.mod_lt _ (by omega)
   have hdl : i / w <= i := Nat.div_le_self i w
   have z1 := Int.natCast_nonneg (i / w)
   obtain ⟨b1, b2, b3⟩ := hbd i (by omega)
   have wt := A.wt hi
   obtain ⟨rs, hrs, hqs⟩ := nextP (n := n) (b := b) (S := (n : Int)) (Hd := t.Hood) (N := ns) (fX := -(r : Int)) (fY := -(r : Int)) (fW := w + 2 * r) (fH := h + 2 * r) (vals := bB b ((w + 2 * r) * (h + 2 * r))) (X := ((i % w : Nat) : Int)) (Y := ((i / w : Nat) : Int)) (W := 1) (H := 1) (fixed := false) (tr := fun _ => ns) (MOk := fun _ => True) (v0 := (F i).1) (cs0 := (F i).2) (mp0 := mp)
    ⟨by omega, by omega, by omega, by omega, by omega, by omega⟩ (cJ _ _) A.R.tok.h25 (fun d hd => by have := A.pts d hd; omega) ⟨by omega, by omega, by omega, by omega, by omega, by omega⟩ (Nat.le_refl _) (Nat.le_refl _)
    (fun j hj => by
     obtain rfl : j = 0 := by omega
     simpa using wt)
    (fun v cs mp x y _ => ⟨mp, rfl, trivial⟩) trivial (by omega) (by omega) (by omega)
   rw [Nat.mul_one, one_cell] at hqs
   rw [show ((1 : Nat) : Int) = 1 from rfl] at hrs
   have hFs : F (i + 1) = parC b t.Hood.length (inS (-(r : Int)) (-(r : Int)) (w + 2 * r) (h + 2 * r) (bB b ((w + 2 * r) * (h + 2 * r))) t.Hood) ns w g.Cells i (F i) := by rw [hF]; rfl
   have hun := fun hh => par_tree_unfit (b := b) (H := t.Hood.length) (ins := inS (-(r : Int)) (-(r : Int)) (w + 2 * r) (h + 2 * r) (bB b ((w + 2 * r) * (h + 2 * r))) t.Hood) (ns := ns) (w := w) (cells := g.Cells) (st := ((((w + 2 * r) * (h + 2 * r) : Nat) : Int) * b, co n b ((w + 2 * r) * (h + 2 * r)))) (i := i) (m := w * h) (by omega) hh
   rw [<- hF] at hun
   unfold parC at hFs
   dsimp only at hFs
   have hlo := last_ok wt (v := (F i).1) (cs := (F i).2)
   have TT := TI.at_ wt (TI.init (n := n) (b := b) (n0 := (F i).1) (cs := (F i).2)) _ (Nat.le_refl _)
   rw [List.take_length] at TT
   have t3 := TT.cs
   have t4 := wt.len
   generalize bA b t.Hood.length (inS (-(r : Int)) (-(r : Int)) (w + 2 * r) (h + 2 * r) (bB b ((w + 2 * r) * (h + 2 * r))) t.Hood (i % w : Nat) (i / w : Nat)) ns ((F i).1, (F i).2, []) = T at hqs hFs hun hlo t3
   obtain ⟨tv, tc, to_⟩ := T
   dsimp only at hqs hFs hun hlo t3
   rcases hqs with ⟨mp', _, hft, rfl⟩ | ⟨hft, hfl⟩
   ·refine .inl ⟨(((i + 1 : Nat) : Int), mp', (F (i + 1)).1, (F (i + 1)).2), ?_, mp', rfl⟩
    unfold b_unroll_Parents_1
    dsimp only
    rw [show ltB (i : Int) (aY g.Cells) = true from decide_eq_true (by unfold aY; omega), cond_true, bg, hci, hgW, q1, q2]
    simp only [aQ]
    rw [<- hgW, e1, e2, e3, hrs]
    simp only [aQ]
    rw [bw (by omega)]
    simp only [cr, Bool.not_true, cond_false]
    rw [show idx (List.map pv [to_.getLastD (0, [])]) 0 = some (pv (to_.getLastD (0, []))) from rfl]
    simp only [aQ]
    rw [hFs]
    generalize to_.getLastD (0, []) = u at hlo
    unfold endC
    dsimp only [pv]
    cases he : isE u.2 with
    | false =>
     simp only [Bool.not_false, cond_true, cond_false]
     rw [f6 (fun e => by rw [e] at he; cases he)]
     simp only [aQ]
     rw [fixP _ (by omega) (by have := vok_len hlo he; have := A.R.sb.b3; omega)]
     rfl
    | true =>
     simp only [Bool.not_true, cond_true, cond_false]
     cases hnb : neB u.1 (g.Cells.getD i 0) with
     | false => simp only [cond_false, List.append_nil]
     | true =>
      simp only [cond_true]
      unfold m_unroll_builder_clause_o_N
      rw [bK (by decide) (by decide) (by simp; omega)]
      rfl
   ·refine .inr ⟨.inl (⟨0, []⟩, 0, 6), ?_, .inr ⟨rfl, hun hft⟩⟩
    unfold b_unroll_Parents_1
    dsimp only
    rw [show ltB (i : Int) (aY g.Cells) = true from decide_eq_true (by unfold aY; omega), cond_true, bg, hci, hgW, q1, q2]
    simp only [aQ]
    rw [<- hgW, e1, e2, e3, hrs]
    simp only [aQ]
    rw [bw (by omega)]
    rw [hfl]
    rfl)
  (fun st ⟨mp, e⟩ => by
   subst e
   refine ⟨.inr (mp, (F (w * h)).1, (F (w * h)).2), ?_, .inl ⟨mp, rfl⟩⟩
   unfold b_unroll_Parents_1
   dsimp only
   rw [show ltB ((w * h : Nat) : Int) (aY g.Cells) = false from decide_eq_false (by unfold aY; omega)]
   rfl)
 rw [ho]
 rcases hq with ⟨mp, rfl⟩ | ⟨rfl, hft⟩
 ·simp only [aQ]
  rw [largeP_eq]
  simp only [aQ]
  cases cj (F (w * h)).1 (F (w * h)).2 <;> rfl
 ·rw [hft]
  rfl
end
end Go.Proofs.YtjfjmdmdkbpdfaaGreatDoor
namespace Go.Proofs.YtjfjmdmdkbpdfaaGreatDoor
open Go.AM Go.Proofs
section
variable {n b : Nat} {t : Tree} {ns : List Node} {g : Grid} {w h r : Nat}
theorem insR {vs : List (List Int)} {n0 : Int} {i : Nat} {f : Int} {l : List (List Int)} (A : GL_ n b t ns g w h r) (hi : i < w * h) :
  b0 (b_R45_Parents_2 g (r : Int) (n0, (bB b ((w + 2 * r) * (h + 2 * r))).map rv, vs) ⟨t.States, t.Hood, ns⟩ (i : Int) f l ((i % w : Nat) : Int) ((i / w : Nat) : Int)) bl (0, []) =
   some ((inS (-(r : Int)) (-(r : Int)) (w + 2 * r) (h + 2 * r) (bB b ((w + 2 * r) * (h + 2 * r))) t.Hood (i % w : Nat) (i / w : Nat)).map rv) := by
 obtain ⟨k1, k2, k3⟩ := A.w16
 have hr2 := A.r2
 have h25 := A.R.tok.h25
 have hw1 := A.G.w1
 have hgW := A.G.W
 have hml : i % w < w := Nat.mod_lt _ (by omega)
 have hdl : i / w <= i := Nat.div_le_self i w
 have z1 := Int.natCast_nonneg (i / w)
 have z2 := Int.natCast_nonneg (i % w)
 have e1 : bf .i64 g.W (bq .i64 2 (r : Int)) = ((w + 2 * r : Nat) : Int) := by rw [hgW, cW (by omega), bQ (by omega)]; omega
 rw [A.ins hi]
 obtain ⟨V, hV⟩ : ∃ V, V = bB b ((w + 2 * r) * (h + 2 * r)) := ⟨_, rfl⟩
 have hVl : V.length = (w + 2 * r) * (h + 2 * r) := by rw [hV, cJ]
 have hidx := fun d hd => A.idx hi (d := d) hd
 rw [<- hV]
 generalize hq : i % w = a at hml z2 hidx ⊢
 generalize hq' : i / w = c at hdl z1 hidx ⊢
 have hg := du (b := b_R45_Parents_2 g (r : Int) (n0, V.map rv, vs) ⟨t.States, t.Hood, ns⟩ (i : Int) f l (a : Int) (c : Int)) t.Hood (fun _ d => [rv (V.getD ((((c : Nat) : Int) + d.Y + r).toNat * (w + 2 * r) + (((a : Nat) : Int) + d.X + r).toNat) (0, []))]) 1 1000 [] (fun _ _ => Nat.le_refl _) (by omega) (by simp; omega)
  (fun k d ac hdk hac => by
   have hk := br hdk
   have hd := List.mem_of_getElem? hdk
   obtain ⟨d1, d2, d3, d4⟩ := A.pts d hd
   obtain ⟨i1, i2, i3⟩ := hidx d hd
   have hsz := A.sz
   have hy : ((((c : Int) + d.Y + r).toNat * (w + 2 * r) : Nat) : Int) = ((c : Int) + d.Y + r) * ((w + 2 * r : Nat) : Int) := by rw [Int.natCast_mul, Int.toNat_of_nonneg i2]
   have hix : bf .i64 (bf .i64 (bq .i64 (bf .i64 (bf .i64 (c : Int) (r : Int)) d.Y) (bf .i64 g.W (bq .i64 2 (r : Int)))) (bf .i64 (a : Int) (r : Int))) d.X = ((((c : Int) + d.Y + r).toNat * (w + 2 * r) + ((a : Int) + d.X + r).toNat : Nat) : Int) := by
    have hq1 : bf .i64 (c : Int) (r : Int) = (c : Int) + r := bQ (by omega)
    have hq2 : bf .i64 ((c : Int) + r) d.Y = (c : Int) + r + d.Y := bQ (by omega)
    have hq3 : bf .i64 (a : Int) (r : Int) = (a : Int) + r := bQ (by omega)
    have hq4 : bq .i64 ((c : Int) + r + d.Y) ((w + 2 * r : Nat) : Int) = ((((c : Int) + d.Y + r).toNat * (w + 2 * r) : Nat) : Int) := by
     rw [show (c : Int) + r + d.Y = (c : Int) + d.Y + r by omega, cW (by omega), hy]
    rw [hq1, hq2, hq3, e1, hq4, bQ (b := (a : Int) + r) (by omega), bQ (b := d.X) (by omega)]
    omega
   unfold b_R45_Parents_2
   dsimp only
   rw [be, decide_eq_true hk, cond_true, bg, hdk, bw (by omega)]
   simp only [aQ]
   rw [hix, bg, List.getElem?_map, List.getElem?_eq_getElem (by omega), List.getD_eq_getElem?_getD, List.getElem?_eq_getElem (by omega)]
   simp only [Option.map_some, aQ]
   rw [bK (by decide) (by decide) (by simp; omega)]
   rfl)
  (fun ac => by
   unfold b_R45_Parents_2
   dsimp only
   rw [be, decide_eq_false (Nat.lt_irrefl _)]
   rfl)
 rw [hg, List.nil_append, gat_map, List.map_map]
 rfl
theorem parR (A : GL_ n b t ns g w h r) (hr : m_R07_Radius t.Hood = some (r : Int)) (hc : m_R45_Check t g = some 0) :
  m_R45_Parents t g = some (bif cj (parF b t ns g n w h r).1 (parF b t ns g n w h r).2 then (⟨(parF b t ns g n w h r).1, (parF b t ns g n w h r).2⟩, (((w + 2 * r) * (h + 2 * r) : Nat) : Int) * b, 0) else (⟨0, []⟩, 0, 6)) := by
 obtain ⟨k1, k2, k3⟩ := A.w16
 have hr2 := A.r2
 have hlen := A.G.len
 have hgW := A.G.W
 have hmul : bq .i64 ((w + 2 * r : Nat) : Int) ((h + 2 * r : Nat) : Int) = (((w + 2 * r) * (h + 2 * r) : Nat) : Int) := by
  have := A.sz
  have e := Int.natCast_mul (w + 2 * r) (h + 2 * r)
  rw [cW (by omega), e]
 have e1 : bf .i64 g.W (bq .i64 2 (r : Int)) = ((w + 2 * r : Nat) : Int) := by rw [A.G.W, cW (by omega), bQ (by omega)]; omega
 have e2 : bf .i64 g.H (bq .i64 2 (r : Int)) = ((h + 2 * r : Nat) : Int) := by rw [A.G.H, cW (by omega), bQ (by omega)]; omega
 unfold m_R45_Parents
 rw [hc, hr]
 simp only [aQ]
 rw [show neB 0 0 = false from rfl, cond_false, e1, e2, hmul, show t.States = (n : Int) from A.R.st, cellsR A.R.sb (by have := A.sz; omega), A.R.R]
 simp only [aQ]
 obtain ⟨F, hF⟩ : ∃ F, F = dq b t.Hood.length (inS (-(r : Int)) (-(r : Int)) (w + 2 * r) (h + 2 * r) (bB b ((w + 2 * r) * (h + 2 * r))) t.Hood) ns w g.Cells ((((w + 2 * r) * (h + 2 * r) : Nat) : Int) * b, co n b ((w + 2 * r) * (h + 2 * r))) := ⟨_, rfl⟩
 have hPF : parF b t ns g n w h r = F (w * h) := by rw [hF]; rfl
 have hbd := fun i hi => par_bound A i hi
 rw [<- hF] at hbd
 dsimp only at hbd
 rw [hPF]
 obtain ⟨o, ho, hq⟩ := bH (b := b_R45_Parents_1 g (r : Int) ((((w + 2 * r) * (h + 2 * r) : Nat) : Int) * b, (bB b ((w + 2 * r) * (h + 2 * r))).map rv, co n b ((w + 2 * r) * (h + 2 * r))) ⟨t.States, t.Hood, ns⟩) (n := w * h) (s := (0, (((w + 2 * r) * (h + 2 * r) : Nat) : Int) * b, co n b ((w + 2 * r) * (h + 2 * r))))
  (fun i st => st = ((i : Int), (F i).1, (F i).2) \/ (∃ j v cs, st = (j, v, cs) /\ cj v cs = false /\ cj (F (w * h)).1 (F (w * h)).2 = false)) (fun o => o = ((F (w * h)).1, (F (w * h)).2) \/ (cj o.1 o.2 = false /\ cj (F (w * h)).1 (F (w * h)).2 = false)) (by omega) (.inl (by rw [hF]; rfl))
  (fun i st hi e => by
   rcases e with e | ⟨j, v, cs, e, hu1, hu2⟩
   ·subst e
    have hci : g.Cells[i]? = some (g.Cells.getD i 0) := by rw [List.getD_eq_getElem?_getD, List.getElem?_eq_getElem (by omega)]; rfl
    obtain ⟨q1, q2⟩ := idiv_nat (i := i) A.G.w1 (by omega)
    obtain ⟨b1, b2, b3⟩ := hbd i (by omega)
    have wt := A.wt hi
    cases hfi : cj (F i).1 (F i).2 with
    | false =>
     have hun : cj (F (w * h)).1 (F (w * h)).2 = false := by
      rw [hF] at hfi ⊢
      exact par_unfit (Nat.le_of_lt hi) hfi
     refine .inr ⟨((F i).1, (F i).2), ?_, .inr ⟨hfi, hun⟩⟩
     unfold b_R45_Parents_1
     dsimp only
     rw [show ltB (i : Int) (aY g.Cells) = true from decide_eq_true (by unfold aY; omega), cond_true, dy]
     dsimp only
     rw [hfi]
     rfl
    | true =>
     have hflen := fit_len hfi
     obtain ⟨rs, hrs, hq1, hq2⟩ := treeR (t := ⟨t.States, t.Hood, ns⟩) (v := (F i).1) (cs := (F i).2) wt A.R.st (by show PC.bitsOf t.States = _; rw [A.R.st]; exact A.R.sb.bits) b1 (by omega) (by omega)
     have hFs : F (i + 1) = parC b t.Hood.length (inS (-(r : Int)) (-(r : Int)) (w + 2 * r) (h + 2 * r) (bB b ((w + 2 * r) * (h + 2 * r))) t.Hood) ns w g.Cells i (F i) := by rw [hF]; rfl
     have hun := fun hh => par_tree_unfit (b := b) (H := t.Hood.length) (ins := inS (-(r : Int)) (-(r : Int)) (w + 2 * r) (h + 2 * r) (bB b ((w + 2 * r) * (h + 2 * r))) t.Hood) (ns := ns) (w := w) (cells := g.Cells) (st := ((((w + 2 * r) * (h + 2 * r) : Nat) : Int) * b, co n b ((w + 2 * r) * (h + 2 * r)))) (i := i) (m := w * h) (by omega) hh
     rw [<- hF] at hun
     unfold parC at hFs
     dsimp only at hFs hq1 hq2 hrs
     have hlo := last_ok wt (v := (F i).1) (cs := (F i).2)
     have TT := TI.at_ wt (TI.init (n := n) (b := b) (n0 := (F i).1) (cs := (F i).2)) _ (Nat.le_refl _)
     rw [List.take_length] at TT
     have t3 := TT.cs
     have t4 := wt.len
     generalize bA b t.Hood.length (inS (-(r : Int)) (-(r : Int)) (w + 2 * r) (h + 2 * r) (bB b ((w + 2 * r) * (h + 2 * r))) t.Hood (i % w : Nat) (i / w : Nat)) ns ((F i).1, (F i).2, []) = T at hq1 hq2 hFs hun hlo t3
     obtain ⟨tv, tc, to_⟩ := T
     dsimp only at hq1 hq2 hFs hun hlo t3
     cases hft : cj tv tc with
     | true =>
      have hrr := hq1 hft
      refine .inl ⟨(((i + 1 : Nat) : Int), (F (i + 1)).1, (F (i + 1)).2), ?_, .inl rfl⟩
      unfold b_R45_Parents_1
      dsimp only
      rw [show ltB (i : Int) (aY g.Cells) = true from decide_eq_true (by unfold aY; omega), cond_true, dy]
      dsimp only
      rw [hfi]
      simp only [aQ, cond_true]
      rw [hgW, q1, q2]
      simp only [aQ]
      rw [insR A hi]
      simp only [aQ]
      rw [hrs, hrr]
      simp only [aQ]
      rw [bg, hci, bw (by omega)]
      simp only [aQ]
      rw [hFs]
      generalize to_.getLastD (0, []) = u at hlo
      unfold endC
      cases he : isE u.2 with
      | false =>
       have hul := vok_len hlo he
       have hb1 := A.R.sb.b1
       have hb3 := A.R.sb.b3
       rw [show gtB (aY u.2) 0 = true from decide_eq_true (by unfold aY; omega), cond_true, fixR _ (by omega) (by omega)]
       rfl
      | true =>
       rw [show gtB (aY u.2) 0 = false from by rw [isE_true he]; rfl, cond_false]
       cases hnb : neB u.1 (g.Cells.getD i 0) with
       | false => simp only [cond_false, cond_true, List.append_nil]
       | true =>
        simp only [cond_true]
        unfold m_R45_clause_o_N_N
        rw [bK (by decide) (by decide) (by simp), bK (by decide) (by decide) (by simp), bK (by decide) (by decide) (by simp; omega)]
        rfl
     | false =>
      obtain ⟨u1, u2, u3, u4, u5⟩ := hq2 hft
      have hun' := hun hft
      have hbase : b_R45_Parents_1 g (r : Int) ((((w + 2 * r) * (h + 2 * r) : Nat) : Int) * b, (bB b ((w + 2 * r) * (h + 2 * r))).map rv, co n b ((w + 2 * r) * (h + 2 * r))) ⟨t.States, t.Hood, ns⟩ ((i : Int), (F i).1, (F i).2) = some (.next (((i + 1 : Nat) : Int), rs.1, rs.2.2.2 ++ bif neB rs.2.1 (g.Cells.getD i 0) then [[]] else [])) := by
       unfold b_R45_Parents_1
       dsimp only
       rw [show ltB (i : Int) (aY g.Cells) = true from decide_eq_true (by unfold aY; omega), cond_true, dy]
       dsimp only
       rw [hfi]
       simp only [aQ, cond_true]
       rw [hgW, q1, q2]
       simp only [aQ]
       rw [insR A hi]
       simp only [aQ]
       rw [hrs]
       simp only [aQ]
       rw [bg, hci, bw (by omega), show gtB (aY rs.2.2.1) 0 = false from by rw [u2]; rfl, cond_false]
       simp only [aQ]
       cases hnb : neB rs.2.1 (g.Cells.getD i 0) with
       | false => simp only [cond_false, List.append_nil]
       | true =>
        simp only [cond_true]
        unfold m_R45_clause_o_N_N
        rw [bK (by decide) (by decide) (by simp), bK (by decide) (by decide) (by simp), bK (by decide) (by decide) (by simp; omega)]
        rfl
      refine .inl ⟨_, hbase, .inr ⟨_, _, _, rfl, ?_, hun'⟩⟩
      cases hfx : cj rs.1 (rs.2.2.2 ++ bif neB rs.2.1 (g.Cells.getD i 0) then [[]] else []) with
      | false => rfl
      | true => rw [ff (Int.le_refl _) (by rw [List.length_append]; omega) hfx] at u1; cases u1
   ·subst e
    refine .inr ⟨(v, cs), ?_, .inr ⟨hu1, hu2⟩⟩
    unfold b_R45_Parents_1
    dsimp only
    rw [dy]
    dsimp only
    rw [hu1]
    cases ltB j (aY g.Cells) <;> rfl)
  (fun st e => by
   rcases e with e | ⟨j, v, cs, e, hu1, hu2⟩
   ·subst e
    refine ⟨((F (w * h)).1, (F (w * h)).2), ?_, .inl rfl⟩
    unfold b_R45_Parents_1
    dsimp only
    rw [show ltB ((w * h : Nat) : Int) (aY g.Cells) = false from decide_eq_false (by unfold aY; omega)]
    rfl
   ·subst e
    refine ⟨(v, cs), ?_, .inr ⟨hu1, hu2⟩⟩
    unfold b_R45_Parents_1
    dsimp only
    rw [dy]
    dsimp only
    rw [hu1]
    cases ltB j (aY g.Cells) <;> rfl)
 rw [ho]
 rcases hq with rfl | ⟨hu1, hu2⟩
 ·simp only [aQ]
  rw [dy]
  simp only [aQ]
  cases cj (F (w * h)).1 (F (w * h)).2 <;> rfl
 ·obtain ⟨ov, oc⟩ := o
  dsimp only at hu1
  simp only [aQ]
  rw [dy]
  simp only [aQ]
  rw [hu1, hu2]
  rfl
end
def chkG (t : Tree) (g : Grid) : Int :=
 bif dG t then bif ef g then bif cU (fun _ s => geB s t.States) g.Cells 0 then 10 else
  (match m_hood_Radius t.Hood with
   | some r => bif gtB (bq .i64 (bf .i64 g.W (bq .i64 2 r)) (bf .i64 g.H (bq .i64 2 r))) 16 then 6 else 0
   | none => 0) else 2 else 11
theorem checkG_eq {t : Tree} {g : Grid} (hs : Sz t) (hg : g.Cells.length < 1099511627776) : m_R45_Check t g = some (chkG t g) := by
 unfold m_R45_Check chkG
 rw [treeR_eq hs, gridR_eq hg, d5 g.Cells (fun _ s => geB s t.States) 10 hg (fun i x hx => by
  unfold b_R45_Check_1
  dsimp only
  rw [be, decide_eq_true (br hx), cond_true, bg, hx, bw (by have := br hx; omega)]
  simp only [aQ, bX]) (by
  unfold b_R45_Check_1
  dsimp only
  rw [be, decide_eq_false (Nat.lt_irrefl _)]
  rfl)]
 cases hok : dG t with
 | false => rfl
 | true =>
  cases ef g with
  | false => rfl
  | true =>
   cases cU (fun _ s => geB s t.States) g.Cells 0 with
   | true => rfl
   | false =>
    obtain ⟨r, h1, h2, _⟩ := rad_of (tok_hood hok)
    rw [h1, h2]
    simp only [aQ, cr, Bool.not_true, cond_true, cond_false, bX]
theorem parErr {t : Tree} {g : Grid} (hs : Sz t) (hg : g.Cells.length < 1099511627776) (h : chkG t g ≠ 0) : m_unroll_Parents t g = some (⟨0, []⟩, 0, chkG t g) := by
 have hcon : m_slices_ContainsFunc_int_int_unroll_Parents_1 g.Cells t = some (cU (fun _ s => geB s t.States) g.Cells 0) := by
  unfold m_slices_ContainsFunc_int_int_unroll_Parents_1 m_slices_IndexFunc_int_int_unroll_Parents_1
  obtain ⟨o, ho, hq⟩ := loop_find (b := b_slices_IndexFunc_int_int_unroll_Parents_1_1 g.Cells t) g.Cells (fun _ s => geB s t.States) (by omega) (fun i x hx => by
   unfold b_slices_IndexFunc_int_int_unroll_Parents_1_1 m_unroll_Parents_1
   dsimp only
   rw [be, decide_eq_true (br hx), cond_true, bg, hx, bw (by have := br hx; omega)]
   simp only [aQ, bX]) (by
   unfold b_slices_IndexFunc_int_int_unroll_Parents_1_1
   dsimp only
   rw [be, decide_eq_false (Nat.lt_irrefl _)]
   rfl)
  rw [ho]
  rcases hq with ⟨h1, k, rfl⟩ | ⟨h1, rfl⟩
  ·rw [h1]
   simp only [aQ]
   rw [show geB (k : Int) 0 = true from decide_eq_true (by omega)]
  ·rw [h1]
   rfl
 unfold m_unroll_Parents
 rw [tree_eq hs, grid_eq hg, hcon]
 unfold chkG at h ⊢
 cases hok : dG t with
 | false => rfl
 | true =>
  rw [hok] at h
  cases hgr : ef g with
  | false => rfl
  | true =>
   rw [hgr] at h
   cases ha : cU (fun _ s => geB s t.States) g.Cells 0 with
   | true => rfl
   | false =>
    rw [ha] at h
    obtain ⟨r, h1, h2, _⟩ := rad_of (tok_hood hok)
    rw [h1] at h ⊢
    simp only [aQ, cr, Bool.not_true, cond_true, cond_false] at h ⊢
    cases hz : gtB (bq .i64 (bf .i64 g.W (bq .i64 2 (r : Int))) (bf .i64 g.H (bq .i64 2 (r : Int)))) 16 with
    | true => rfl
    | false => rw [hz] at h; exact absurd rfl h
theorem lt_of_fit {v : Int} {cs : List (List Int)} (h : cj v cs = true) : cs.length < 1099511627776 := by
 have := fit_len h
 omega
theorem fit_eq {v : Int} {cs : List (List Int)} (h : cj v cs = true) (hc : ∀ c ∈ cs, c.length < 1099511627776) : m_R41_Equal ⟨v, cs⟩ ⟨v, cs⟩ = some true := equal41 _ (lt_of_fit h) hc
end Go.Proofs.YtjfjmdmdkbpdfaaGreatDoor
namespace Go.Proofs.YtjfjmdmdkbpdfaaGreatDoor
open Go.AM Go.Proofs
theorem gat_mem {α β : Type} {f : Nat -> α -> List β} {c : β} : ∀ {l : List α} {i : Nat}, c ∈ gat f l i -> ∃ j x, x ∈ l /\ c ∈ f j x
 | [], _, h => by cases h
 | x :: l, i, h => by
  rcases List.mem_append.1 h with h | h
  ·exact ⟨i, x, by simp, h⟩
  ·obtain ⟨j, y, h1, h2⟩ := gat_mem h
   exact ⟨j, y, by simp [h1], h2⟩
def CL (cs : List (List Int)) : Prop := ∀ c ∈ cs, c.length <= 8
theorem CL.app {a b : List (List Int)} (h1 : CL a) (h2 : CL b) : CL (a ++ b) := fun c hc => by
 rcases List.mem_append.1 hc with h | h
 ·exact h1 c h
 ·exact h2 c h
theorem CL.nil : CL [] := fun c h => by cases h
theorem fix_cl (l : List Int) (c : Int) : CL (fixS l c) := fun d hd => by
 obtain ⟨j, x, _, h⟩ := gat_mem hd
 rw [List.mem_singleton.1 h]
 simp
theorem sel_cl {un own : List Int} (h : un.length <= 3) (v : SV) : CL (selS un own v) := fun d hd => by
 obtain ⟨j, x, _, hc⟩ := gat_mem hd
 unfold sel1 at hc
 cases he : isE v.2 with
 | true =>
  rw [he, cond_true] at hc
  rw [List.mem_singleton.1 hc, List.length_append]
  simp
  omega
 | false =>
  rw [he, cond_false] at hc
  rcases List.mem_cons.1 hc with e | hc
  ·rw [e, List.length_append]; simp; omega
  ·rw [List.mem_singleton.1 hc, List.length_append]; simp; omega
theorem ex_cl {n b : Nat} (hb : b <= 3) {vs : List Int} (h : vs.length = b) : CL (exC n b vs) := fun d hd => by
 unfold exC at hd
 obtain ⟨k, _, rfl⟩ := List.mem_map.1 hd
 rw [agS_len]
 omega
theorem cells_cl {n b m : Nat} (hb : b <= 3) : CL (co n b m) := fun d hd => by
 obtain ⟨j, v, hv, hc⟩ := gat_mem hd
 exact ex_cl hb (cellsV_ok (n := n) v hv).2 d hc
theorem tree_cl {n b H : Nat} {in_ : List SV} {ns : List Node} {v : Int} {cs : List (List Int)} (W : WT n b H in_ ns) (h : CL cs) : ∀ i, i <= ns.length -> CL (bA b H in_ (ns.take i) (v, cs, [])).2.1
 | 0, _ => h
 | i + 1, hi => by
  have ih := tree_cl (v := v) W h i (by omega)
  have hx : ns[i]? = some ns[i] := List.getElem?_eq_getElem (by omega)
  rw [tree_take b H in_ _ hx]
  generalize ns[i] = x at hx
  have hr := rds_len W hx
  generalize bA b H in_ (ns.take i) (v, cs, []) = st at ih
  unfold eZ
  cases uniB x with
  | true => exact ih
  | false =>
   refine ih.app fun d hd => ?_
   obtain ⟨s, _, _, hc⟩ := gat_mem hd
   exact sel_cl (by rw [agS_len]; exact hr) _ d hc
theorem tree_cl' {n b H : Nat} {in_ : List SV} {ns : List Node} {v : Int} {cs : List (List Int)} (W : WT n b H in_ ns) (h : CL cs) : CL (bA b H in_ ns (v, cs, [])).2.1 := by
 have := tree_cl (v := v) W h ns.length (Nat.le_refl _)
 rwa [List.take_length] at this
theorem end_cl (u : SV) (s : Int) : CL (endC u s) := by
 unfold endC
 cases isE u.2 with
 | true =>
  cases neB u.1 s with
  | true => exact fun d hd => by rw [List.mem_singleton.1 hd]; simp
  | false => exact CL.nil
 | false => exact fix_cl _ _
theorem par_cl {n b : Nat} {t : Tree} {ns : List Node} {g : Grid} {w h r : Nat} (A : GL_ n b t ns g w h r) : ∀ i, i <= w * h -> CL (dq b t.Hood.length (inS (-(r : Int)) (-(r : Int)) (w + 2 * r) (h + 2 * r) (bB b ((w + 2 * r) * (h + 2 * r))) t.Hood) ns w g.Cells ((((w + 2 * r) * (h + 2 * r) : Nat) : Int) * b, co n b ((w + 2 * r) * (h + 2 * r))) i).2
 | 0, _ => cells_cl A.R.sb.b3
 | i + 1, hi => by
  have ih := par_cl A i (by omega)
  rw [dq]
  generalize dq b t.Hood.length (inS (-(r : Int)) (-(r : Int)) (w + 2 * r) (h + 2 * r) (bB b ((w + 2 * r) * (h + 2 * r))) t.Hood) ns w g.Cells ((((w + 2 * r) * (h + 2 * r) : Nat) : Int) * b, co n b ((w + 2 * r) * (h + 2 * r))) i = st at ih
  exact (tree_cl' (A.wt (by omega)) ih).app (end_cl _ _)
theorem CL.lt {cs : List (List Int)} (h : CL cs) : ∀ c ∈ cs, c.length < 1099511627776 := fun c hc => by have := h c hc; omega
theorem eqB_self (a : Int) : eqB a a = true := by simp [eqB]
theorem gl_of {t : Tree} {g : Grid} (hc : chkG t g = 0) : ∃ n b ns w h r, GL_ n b t ns g w h r /\ m_hood_Radius t.Hood = some (r : Int) /\ m_R07_Radius t.Hood = some (r : Int) /\ ef g = true /\ cU (fun _ s => geB s t.States) g.Cells 0 = false := by
 unfold chkG at hc
 cases hok : dG t with
 | false => rw [hok] at hc; simp at hc
 | true =>
  rw [hok] at hc
  cases hgr : ef g with
  | false => rw [hgr] at hc; simp at hc
  | true =>
   rw [hgr] at hc
   cases ha : cU (fun _ s => geB s t.States) g.Cells 0 with
   | true => rw [ha] at hc; simp at hc
   | false =>
    rw [ha] at hc
    obtain ⟨r, h1, h2, h3, h4⟩ := rad_of (tok_hood hok)
    rw [h1] at hc
    dsimp only [cond_true, cond_false] at hc
    obtain ⟨w, h, G⟩ := grid_ok hgr
    obtain ⟨n, b, ns, R⟩ := rt_of hok
    refine ⟨n, b, ns, w, h, r, ⟨R, G, h3, h4, ?_⟩, h1, h2, rfl, rfl⟩
    have e1 : bf .i64 g.W (bq .i64 2 (r : Int)) = ((w + 2 * r : Nat) : Int) := by have := G.w2; rw [G.W, cW (by omega), bQ (by omega)]; omega
    have e2 : bf .i64 g.H (bq .i64 2 (r : Int)) = ((h + 2 * r : Nat) : Int) := by have := G.h2; rw [G.H, cW (by omega), bQ (by omega)]; omega
    have hle : (w + 2 * r) * (h + 2 * r) <= 260 * 260 := Nat.mul_le_mul (by have := G.w2; omega) (by have := G.h2; omega)
    have e3 : bq .i64 ((w + 2 * r : Nat) : Int) ((h + 2 * r : Nat) : Int) = (((w + 2 * r) * (h + 2 * r) : Nat) : Int) := by
     have e := Int.natCast_mul (w + 2 * r) (h + 2 * r)
     rw [cW (by omega), e]
    rw [e1, e2, e3] at hc
    cases hz : gtB (((w + 2 * r) * (h + 2 * r) : Nat) : Int) 16 with
    | true => rw [hz] at hc; simp at hc
    | false =>
     have := of_decide_eq_false hz
     omega
theorem parents_true (t : Tree) (g : Grid) : m_L45_UnrollParents t g = some true := by
 obtain ⟨y, hy, hs⟩ := small_eq t ⟨0, 0, 0, 0, 0, []⟩
 unfold m_L45_UnrollParents
 rw [hy, alive45]
 cases y with
 | false => rfl
 | true =>
  obtain ⟨hsz, _⟩ := hs rfl
  simp only [aQ, cr, Bool.not_true, cond_false]
  cases hc : gtB (aY g.Cells) 5000 with
  | true => rfl
  | false =>
   have hl := of_decide_eq_false hc
   unfold aY at hl
   simp only [cond_false]
   by_cases h0 : chkG t g = 0
   ·obtain ⟨n, b, ns, w, h, r, A, h1, h2, h3, h4⟩ := gl_of h0
    rw [parP A h1 h3 h4, parR A h2 (by rw [checkG_eq hsz (by omega), h0])]
    simp only [aQ]
    cases hf : cj (parF b t ns g n w h r).1 (parF b t ns g n w h r).2 with
    | true =>
     simp only [cond_true]
     rw [fit_eq hf (par_cl A _ (Nat.le_refl _)).lt]
     simp only [aQ, cond_true, eqB_self]
    | false =>
     simp only [cond_false]
     rw [equal41 ⟨0, []⟩ (by simp) (fun c h => by cases h)]
     rfl
   ·rw [parErr hsz (by omega) h0]
    unfold m_R45_Parents
    rw [checkG_eq hsz (by omega)]
    simp only [aQ]
    rw [show neB (chkG t g) 0 = true from by simp [neB, h0], cond_true]
    simp only [aQ]
    rw [equal41 ⟨0, []⟩ (by simp) (fun c h => by cases h)]
    simp only [aQ, cond_true, eqB_self]
end Go.Proofs.YtjfjmdmdkbpdfaaGreatDoor
