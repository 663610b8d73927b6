/- The types of the program, as lists and numbers. -/
import Derived.Test.YtnkmjlncmlmnbaaGreatDoorAmAp
import Derived.Test.YtnkmjlncmlmnbaaGreatDoorAmFz
import Derived.Test.YtnkmjlncmlmnbaaGreatDoorAmPm
namespace Go.Proofs.YtnkmjlncmlmnbaaGreatDoor
open Go.AM Go.Proofs
theorem rsetI (k:IntKind) (l:List Int) (i:Nat) (x:Int):(List.map (rI k) l).set i [L.int k x]=List.map (rI k) (l.set i x):=by rw[List.map_set]; rfl
theorem rsetB (l:List Bool) (i:Nat) (x:Bool):(List.map rB l).set i [L.bool x]=List.map rB (l.set i x):=by rw[List.map_set]; rfl
structure Point where
 X:Int
 Y:Int
 deriving DecidableEq,Inhabited
def Point.row (x:Point):List L:=[.int .i64 x.X,.int .i64 x.Y]
theorem Point.row_eq (x:Point):x.row=[.int .i64 x.X,.int .i64 x.Y]:=rfl
def Point.key (x:Point):Key:=.ints [x.X,x.Y]
def Point.ints (x:Point):List Int:=[x.X,x.Y]
instance:KeyF Point.key:=⟨fun a b h=>by unfold Point.key at h; cases a; cases b; injection h with h; simp only[List.cons.injEq,and_true] at h; simp only[Point.mk.injEq]; exact h⟩
structure Node where
 Level:Int
 Next:List Int
 deriving DecidableEq,Inhabited
def Node.row (x:Node):List L:=[.int .i64 x.Level,.sl 1 (List.map (rI .i64) x.Next)]
theorem Node.row_eq (x:Node):x.row=[.int .i64 x.Level,.sl 1 (List.map (rI .i64) x.Next)]:=rfl
structure Tree where
 States:Int
 Hood:List Point
 Nodes:List Node
 deriving DecidableEq,Inhabited
def Tree.row (x:Tree):List L:=[.int .i64 x.States,.sl 2 (List.map Point.row x.Hood),.sl 2 (List.map Node.row x.Nodes)]
theorem Tree.row_eq (x:Tree):x.row=[.int .i64 x.States,.sl 2 (List.map Point.row x.Hood),.sl 2 (List.map Node.row x.Nodes)]:=rfl
structure Bl where
 W:Int
 H:Int
 Gens:Int
 DX:Int
 DY:Int
 Syms:List Int
 deriving DecidableEq,Inhabited
def Bl.row (x:Bl):List L:=[.int .i64 x.W,.int .i64 x.H,.int .i64 x.Gens,.int .i64 x.DX,.int .i64 x.DY,.sl 1 (List.map (rI .i64) x.Syms)]
theorem Bl.row_eq (x:Bl):x.row=[.int .i64 x.W,.int .i64 x.H,.int .i64 x.Gens,.int .i64 x.DX,.int .i64 x.DY,.sl 1 (List.map (rI .i64) x.Syms)]:=rfl
structure Bm where
 Vars:Int
 Clauses:List (List Int)
 deriving DecidableEq,Inhabited
def Bm.row (x:Bm):List L:=[.int .i64 x.Vars,.sl 1 (List.map (rS 1 (rI .i64)) x.Clauses)]
theorem Bm.row_eq (x:Bm):x.row=[.int .i64 x.Vars,.sl 1 (List.map (rS 1 (rI .i64)) x.Clauses)]:=rfl
structure Grid where
 W:Int
 H:Int
 Edge:Int
 Cells:List Int
 deriving DecidableEq,Inhabited
def Grid.row (x:Grid):List L:=[.int .i64 x.W,.int .i64 x.H,.int .i64 x.Edge,.sl 1 (List.map (rI .i64) x.Cells)]
theorem Grid.row_eq (x:Grid):x.row=[.int .i64 x.W,.int .i64 x.H,.int .i64 x.Edge,.sl 1 (List.map (rI .i64) x.Cells)]:=rfl
structure Cell where
 X:Int
 Y:Int
 S:Int
 deriving DecidableEq,Inhabited
def Cell.row (x:Cell):List L:=[.int .i64 x.X,.int .i64 x.Y,.int .i64 x.S]
theorem Cell.row_eq (x:Cell):x.row=[.int .i64 x.X,.int .i64 x.Y,.int .i64 x.S]:=rfl
def Cell.key (x:Cell):Key:=.ints [x.X,x.Y,x.S]
def Cell.ints (x:Cell):List Int:=[x.X,x.Y,x.S]
instance:KeyF Cell.key:=⟨fun a b h=>by unfold Cell.key at h; cases a; cases b; injection h with h; simp only[List.cons.injEq,and_true] at h; simp only[Cell.mk.injEq]; exact h⟩
structure Box where
 X:Int
 Y:Int
 W:Int
 H:Int
 deriving DecidableEq,Inhabited
def Box.row (x:Box):List L:=[.int .i64 x.X,.int .i64 x.Y,.int .i64 x.W,.int .i64 x.H]
theorem Box.row_eq (x:Box):x.row=[.int .i64 x.X,.int .i64 x.Y,.int .i64 x.W,.int .i64 x.H]:=rfl
def Box.key (x:Box):Key:=.ints [x.X,x.Y,x.W,x.H]
def Box.ints (x:Box):List Int:=[x.X,x.Y,x.W,x.H]
instance:KeyF Box.key:=⟨fun a b h=>by unfold Box.key at h; cases a; cases b; injection h with h; simp only[List.cons.injEq,and_true] at h; simp only[Box.mk.injEq]; exact h⟩
structure Bn where
 constant:Int
 vars:List Int
 deriving DecidableEq,Inhabited
def Bn.row (x:Bn):List L:=[.int .i64 x.constant,pnil 1 (List.map (rI .i64) x.vars)]
theorem Bn.row_eq (x:Bn):x.row=[.int .i64 x.constant,pnil 1 (List.map (rI .i64) x.vars)]:=rfl
structure Bo where
 box:Box
 values:List Bn
 deriving DecidableEq,Inhabited
def Bo.row (x:Bo):List L:=[.int .i64 x.box.X,.int .i64 x.box.Y,.int .i64 x.box.W,.int .i64 x.box.H,.sl 2 (List.map Bn.row x.values)]
theorem Bo.row_eq (x:Bo):x.row=[.int .i64 x.box.X,.int .i64 x.box.Y,.int .i64 x.box.W,.int .i64 x.box.H,.sl 2 (List.map Bn.row x.values)]:=rfl
structure Bp where
 State:Int
 Vars:List Int
 deriving DecidableEq,Inhabited
def Bp.row (x:Bp):List L:=[.int .i64 x.State,.sl 1 (List.map (rI .i64) x.Vars)]
theorem Bp.row_eq (x:Bp):x.row=[.int .i64 x.State,.sl 1 (List.map (rI .i64) x.Vars)]:=rfl
structure Bq where
 box:Box
 of_:List Bp
 deriving DecidableEq,Inhabited
def Bq.row (x:Bq):List L:=[.int .i64 x.box.X,.int .i64 x.box.Y,.int .i64 x.box.W,.int .i64 x.box.H,.sl 2 (List.map Bp.row x.of_)]
theorem Bq.row_eq (x:Bq):x.row=[.int .i64 x.box.X,.int .i64 x.box.Y,.int .i64 x.box.W,.int .i64 x.box.H,.sl 2 (List.map Bp.row x.of_)]:=rfl
attribute [simp] Point.row_eq Node.row_eq Tree.row_eq Bl.row_eq Bm.row_eq Grid.row_eq Cell.row_eq Box.row_eq Bn.row_eq Bo.row_eq Bp.row_eq Bq.row_eq
def g0R:List (Int×Int×Int×Int):=[(1,0,0,1),(0,(-1),1,0),((-1),0,0,(-1)),(0,1,(-1),0),((-1),0,0,1),(0,(-1),(-1),0),(1,0,0,(-1)),(0,1,1,0)]
end Go.Proofs.YtnkmjlncmlmnbaaGreatDoor
namespace Go.Proofs.YtnkmjlncmlmnbaaGreatDoor
end Go.Proofs.YtnkmjlncmlmnbaaGreatDoor
namespace Go.Proofs.YtnkmjlncmlmnbaaGreatDoor
open Go.AM Go.Proofs
def b_L45_Small_1 (t:Tree) (_x:Bl) (stt:Int):Option (Lp (Int) (Bool ⊕ Unit)):=match stt with
 | a1 =>
  (bif (ltB a1 (bf t.Nodes)) then
   (idx t.Nodes a1).bind fun x1 =>
   (bif (gtB (bf x1.Next) 20) then
    some (.out (.inl false))
   else
    some (.next (bk .i64 a1 1)))
  else
   some (.out (.inr ())))
def m_L45_Small (t:Tree) (x:Bl):Option (Bool) :=
 ((bif (gtB (bf t.Nodes) 150) then
  some true
 else
  (bif (gtB (bf t.Hood) 9) then
   some true
  else
   (bif (gtB (bf x.Syms) 20) then
    some true
   else
    (bif (gtB x.Gens 3) then
     some (leB x.Gens 6)
    else
     some false))))).bind fun a =>
 (bif a then
  some false
 else
  (bh (b_L45_Small_1 t x) bm 0).bind fun o=>match o with
   | .inl r =>
    some r
   | .inr _u =>
    ((bif (ltB x.W 1) then
     some true
    else
     (bif (ltB x.H 1) then
      some true
     else
      (bif (gtB x.W 16) then
       some true
      else
       (bif (gtB x.H 16) then
        some true
       else
        (bif (leB (bB .i64 x.W x.H) 9) then
         some true
        else
         some (gtB (bB .i64 x.W x.H) 16))))))).bind fun a1 =>
    some a1)
def m_L45_keep:Option (Tree) :=
 some (⟨2,[(⟨0,0⟩:Point)],[(⟨1,[0,1]⟩:Node)]⟩:Tree)
def m_cmp_isNaN_int (x:Int):Option (Bool) :=
 some (neB x x)
def m_cmp_Compare_int (x y:Int):Option (Int) :=
 (m_cmp_isNaN_int x).bind fun y1 =>
 (m_cmp_isNaN_int y).bind fun y2 =>
 (bif y1 then
  (bif y2 then
   some 0
  else
   some (-1))
 else
  (bif y2 then
   some 1
  else
   (bif (ltB x y) then
    some (-1)
   else
    (bif (gtB x y) then
     some 1
    else
     some 0))))
def b_cmp_Or_int_1 (vals:List Int) (stt:Int):Option (Lp (Int) (Int ⊕ Unit)):=match stt with
 | a =>
  (bif (ltB a (bf vals)) then
   (idx vals a).bind fun x =>
   (bif (neB x 0) then
    some (.out (.inl x))
   else
    some (.next (bk .i64 a 1)))
  else
   some (.out (.inr ())))
def m_cmp_Or_int (vals:List Int):Option (Int) :=
 (bh (b_cmp_Or_int_1 vals) bm 0).bind fun o=>match o with
  | .inl r =>
   some r
  | .inr _u =>
   some 0
def m_point_Compare (a b:Point):Option (Int) :=
 (m_cmp_Compare_int a.Y b.Y).bind fun y =>
 (m_cmp_Compare_int a.X b.X).bind fun y1 =>
 (m_cmp_Or_int [y,y1]).bind fun y2 =>
 some y2
def b_hood_Right_1 (l:List Point) (stt:Int):Option (Lp (Int) (Bool ⊕ Unit)):=match stt with
 | a1 =>
  (bif (ltB a1 (bf l)) then
   (idx l a1).bind fun x =>
   ((bif (ltB x.X (-2)) then
    some true
   else
    (bif (gtB x.X 2) then
     some true
    else
     (bif (ltB x.Y (-2)) then
      some true
     else
      (bif (gtB x.Y 2) then
       some true
      else
       (bif (gtB a1 0) then
        (idx l (br .i64 a1 1)).bind fun x1 =>
        (m_point_Compare x1 x).bind fun y =>
        some (geB y 0)
       else
        some false)))))).bind fun a2 =>
   (bif a2 then
    some (.out (.inl false))
   else
    some (.next (bk .i64 a1 1)))
  else
   some (.out (.inr ())))
def m_hood_Right (l:List Point):Option (Bool) :=
 ((bif (ltB (bf l) 1) then
  some true
 else
  some (gtB (bf l) 25))).bind fun a =>
 (bif a then
  some false
 else
  (bh (b_hood_Right_1 l) bm 0).bind fun o=>match o with
   | .inl r =>
    some r
   | .inr _u =>
    some true)
def b_tree_Right_2 (t:Tree) (a1:Int) (x:Node) (stt:Int):Option (Lp (Int) (Bool ⊕ Unit)):=match stt with
 | a3 =>
  (bif (ltB a3 (bf x.Next)) then
   (idx x.Next a3).bind fun x1 =>
   ((bif (ltB x1 0) then
    some true
   else
    (bif (eqB x.Level 1) then
     (bif (geB x1 t.States) then
      some true
     else
      (bif (gtB x.Level 1) then
       (bif (geB x1 a1) then
        some true
       else
        (idx t.Nodes x1).bind fun x2 =>
        some (neB x2.Level (br .i64 x.Level 1)))
      else
       some false))
    else
     (bif (gtB x.Level 1) then
      (bif (geB x1 a1) then
       some true
      else
       (idx t.Nodes x1).bind fun x2 =>
       some (neB x2.Level (br .i64 x.Level 1)))
     else
      some false)))).bind fun a4 =>
   (bif a4 then
    some (.out (.inl false))
   else
    some (.next (bk .i64 a3 1)))
  else
   some (.out (.inr ())))
def b_tree_Right_1 (t:Tree) (stt:Int):Option (Lp (Int) (Bool ⊕ Unit)):=match stt with
 | a1 =>
  (bif (ltB a1 (bf t.Nodes)) then
   (idx t.Nodes a1).bind fun x =>
   ((bif (ltB x.Level 1) then
    some true
   else
    (bif (gtB x.Level (bf t.Hood)) then
     some true
    else
     some (neB (bf x.Next) t.States)))).bind fun a2 =>
   (bif a2 then
    some (.out (.inl false))
   else
    (bh (b_tree_Right_2 t a1 x) bm 0).bind fun o=>match o with
     | .inl r =>
      some (.out (.inl r))
     | .inr _u =>
      some (.next (bk .i64 a1 1)))
  else
   some (.out (.inr ())))
def m_tree_Right (t:Tree):Option (Bool) :=
 ((bif (ltB t.States 2) then
  some true
 else
  (bif (gtB t.States 8) then
   some true
  else
   (m_hood_Right t.Hood).bind fun y =>
   (bif (bW y) then
    some true
   else
    (bif (ltB (bf t.Nodes) 1) then
     some true
    else
     (bif (gtB (bf t.Nodes) 4096) then
      some true
     else
      (idx t.Nodes (br .i64 (bf t.Nodes) 1)).bind fun x =>
      some (neB x.Level (bf t.Hood)))))))).bind fun a =>
 (bif a then
  some false
 else
  (bh (b_tree_Right_1 t) bm 0).bind fun o=>match o with
   | .inl r =>
    some r
   | .inr _u =>
    some true)
def b_tree_value_1 (t:Tree) (in_:List Int) (stt:Int×Int):Option (Lp (Int×Int) (Int)):=match stt with
 | (k,a) =>
  (bif (ltB a (bf in_)) then
   (idx in_ a).bind fun x =>
   (idx t.Nodes k).bind fun x1 =>
   (idx x1.Next x).bind fun x2 =>
   some (.next (x2,(bk .i64 a 1)))
  else
   some (.out k))
def m_tree_value (t:Tree) (in_:List Int):Option (Int) :=
 (bh (b_tree_value_1 t in_) bm ((br .i64 (bf t.Nodes) 1),0)).bind fun k =>
 some k
def m_tree_Quiet (t:Tree):Option (Bool) :=
 ((m_tree_Right t).bind fun y =>
 (bif y then
  (mkL 8 (bf t.Hood) (bf t.Hood) 0).bind fun _l =>
  (m_tree_value t (List.replicate (bf t.Hood).toNat 0)).bind fun y1 =>
  some (eqB y1 0)
 else
  some false)).bind fun a =>
 some a
def m_pattern_at (cv:Cell):Option (Point) :=
 some (⟨cv.X,cv.Y⟩:Point)
def m_pattern_placed (p:Point):Option (Bool) :=
 ((bif (leB (d7 p.X p.Y) 1048576) then
  some (geB (ii p.X p.Y) (-1048576))
 else
  some false)).bind fun a =>
 some a
def m_pattern_order (a b:Cell):Option (Int) :=
 (m_pattern_at a).bind fun y =>
 (m_pattern_at b).bind fun y1 =>
 (m_point_Compare y y1).bind fun y2 =>
 some y2
def b_pattern_Right_1 (p:List Cell) (stt:Int):Option (Lp (Int) (Bool ⊕ Unit)):=match stt with
 | a =>
  (bif (ltB a (bf p)) then
   (idx p a).bind fun x =>
   ((m_pattern_at x).bind fun y =>
   (m_pattern_placed y).bind fun y1 =>
   (bif (bW y1) then
    some true
   else
    (bif (ltB x.S 1) then
     some true
    else
     (bif (geB x.S 8) then
      some true
     else
      (bif (gtB a 0) then
       (idx p (br .i64 a 1)).bind fun x1 =>
       (m_pattern_order x1 x).bind fun y2 =>
       some (geB y2 0)
      else
       some false))))).bind fun a1 =>
   (bif a1 then
    some (.out (.inl false))
   else
    some (.next (bk .i64 a 1)))
  else
   some (.out (.inr ())))
def m_pattern_Right (p:List Cell):Option (Bool) :=
 (bif (gtB (bf p) 5000) then
  some false
 else
  (bh (b_pattern_Right_1 p) bm 0).bind fun o=>match o with
   | .inl r =>
    some r
   | .inr _u =>
    some true)
def b_pattern_Top_1 (p:List Cell) (stt:Int×Int):Option (Lp (Int×Int) (Int)):=match stt with
 | (n,a) =>
  (bif (ltB a (bf p)) then
   (idx p a).bind fun x =>
   some (.next ((d7 n x.S),(bk .i64 a 1)))
  else
   some (.out n))
def m_pattern_Top (p:List Cell):Option (Int) :=
 (bh (b_pattern_Top_1 p) bm (0,0)).bind fun n =>
 some n
def m_direct_check (t:Tree) (p:List Cell):Option (Int) :=
 (m_tree_Quiet t).bind fun y =>
 (bif (bW y) then
  some 11
 else
  (m_pattern_Right p).bind fun y1 =>
  (bif (bW y1) then
   some 2
  else
   (m_pattern_Top p).bind fun y2 =>
   (bif (geB y2 t.States) then
    some 10
   else
    some 0)))
def b_direct_Run_1 (_t:Tree) (_p:List Cell) (n:Int) (stt:Unit):Option (Lp (Unit) (Unit)):=match stt with
 | _u =>
  (bif (ltB 0 n) then
   none
  else
   some (.out ()))
def m_direct_Run (t:Tree) (p:List Cell) (n:Int):Option ((List Cell)×Int) :=
 (m_direct_check t p).bind fun y =>
 (bif (neB y 0) then
  some ([],y)
 else
  ((bif (ltB n 0) then
   some true
  else
   some (gtB n 10000))).bind fun a =>
  (bif a then
   some ([],2)
  else
   (bh (b_direct_Run_1 t p n) bm ()).bind fun _u =>
   some (p,0)))
def b_problem_fits_1 (x:Bl) (stt:Int×(List Bool)):Option (Lp (Int×(List Bool)) (Bool ⊕ Unit)):=match stt with
 | (a,seen) =>
  (bif (ltB a (bf x.Syms)) then
   (idx x.Syms a).bind fun x1 =>
   ((bif (ltB x1 0) then
    some true
   else
    (bif (geB x1 8) then
     some true
    else
     (aidx 8 seen x1).bind fun x2 =>
     (bif x2 then
      some true
     else
      (i7 x1 2).bind fun n =>
      (bif (eqB n 1) then
       some (neB x.W x.H)
      else
       some false))))).bind fun a1 =>
   (bif a1 then
    some (.out (.inl false))
   else
    (aidx 8 seen x1).bind fun _x2 =>
    some (.next ((bk .i64 a 1),(seen.set x1.toNat true))))
  else
   some (.out (.inr ())))
def m_problem_fits (x:Bl):Option (Bool) :=
 (bh (b_problem_fits_1 x) bm (0,[false,false,false,false,false,false,false,false])).bind fun o=>match o with
  | .inl r =>
   some r
  | .inr _u =>
   some true
def m_problem_first (x:Bl):Option (Int) :=
 (bif (ltB (ii x.W x.H) 1) then
  some 2
 else
  ((bif (gtB (d7 x.W x.H) 16) then
   some true
  else
   some (gtB (bB .i64 x.W x.H) 16))).bind fun a =>
  (bif a then
   some 6
  else
   ((bif (ltB x.Gens 1) then
    some true
   else
    (bif (gtB x.Gens 6) then
     some true
    else
     (bif (gtB (d7 x.DX x.DY) 24) then
      some true
     else
      (bif (ltB (ii x.DX x.DY) (-24)) then
       some true
      else
       (m_problem_fits x).bind fun y =>
       some (bW y)))))).bind fun a1 =>
   (bif a1 then
    some 2
   else
    some 0)))
def m_problem_Check (t:Tree) (x:Bl):Option (Int) :=
 (m_direct_Run t [] 0).bind fun y =>
 (bif (neB y.2 0) then
  some y.2
 else
  (m_problem_first x).bind fun y1 =>
  some y1)
def m_slices_Clone_int_int (l:List Int):Option (List Int):=bQ 8 [] l
def m_reduce_Reduce_1 (_x:Int) (next:List Int):Option (List Int) :=
 some next
def m_internal_strconv_AppendUint_o (l:List Int) (n base:Int):Option (List Int):=appUM l n base
def m_internal_strconv_AppendInt_N (i base:Int):Option (List Int) :=
 ((bif (ltB i 0) then
  (bQ 1 [] [45]).bind fun _l =>
  some ((bH .u64 (gt .u64 i)),([]++[45]))
 else
  some ((gt .u64 i),[]))).bind fun(u,dst) =>
 (m_internal_strconv_AppendUint_o dst u base).bind fun y =>
 some y
def m_strconv_AppendInt_N (i base:Int):Option (List Int) :=
 (m_internal_strconv_AppendInt_N i base).bind fun y =>
 some y
def m_internal_strconv_AppendInt_o (dst:List Int) (i base:Int):Option (List Int) :=
 ((bif (ltB i 0) then
  (bQ 1 dst [45]).bind fun _l =>
  some ((bH .u64 (gt .u64 i)),(dst++[45]))
 else
  some ((gt .u64 i),dst))).bind fun(u,dst1) =>
 (m_internal_strconv_AppendUint_o dst1 u base).bind fun y =>
 some y
def m_strconv_AppendInt_o (dst:List Int) (i base:Int):Option (List Int) :=
 (m_internal_strconv_AppendInt_o dst i base).bind fun y =>
 some y
def b_reduce_builder_node_o_1 (_aA:List Node) (_ak:List (List UInt8×Int)) (_level:Int) (next:List Int) (stt:Int×(List Int)):Option (Lp (Int×(List Int)) ((List Int))):=match stt with
 | (a,keyv) =>
  (bif (ltB a (bf next)) then
   (idx next a).bind fun x =>
   (bQ 1 keyv [32]).bind fun _l =>
   (m_strconv_AppendInt_o (keyv++[32]) x 10).bind fun y1 =>
   some (.next ((bk .i64 a 1),y1))
  else
   some (.out keyv))
def m_reduce_builder_node_o (aA:List Node) (ak:List (List UInt8×Int)) (level:Int) (next:List Int):Option (Int×(List (List UInt8×Int))×(List Node)) :=
 (m_strconv_AppendInt_N level 10).bind fun y =>
 (bh (b_reduce_builder_node_o_1 aA ak level next) bm (0,y)).bind fun keyv =>
 (kckS (ofBytes keyv)).bind fun _u =>
 (bif (eu ak (ofBytes keyv)) then
  some ((mgetD ak (ofBytes keyv) 0),ak,aA)
 else
  (bQ 32 aA [(⟨level,next⟩:Node)]).bind fun _l =>
  some ((br .i64 ((bf aA)+1) 1),(msetL ak (ofBytes keyv) (br .i64 ((bf aA)+1) 1)),(aA++[(⟨level,next⟩:Node)])))
def m_slices_Clone_api_Point_api_Point (l:List Point):Option (List Point):=bQ 16 [] l
def b_reduce_ordered_1_o_o_o_o_1 (rcv:(Int->(List Int)->(List Node)->(List Node)->Option (Int×(List Int)×(List Node)))) (_k:Int) (a1:List Node) (x1:Node) (y:List Int) (stt:Int×(List Int)×(List Node)×(List Int)):Option (Lp (Int×(List Int)×(List Node)×(List Int)) (((List Int)×(List Node)×(List Int)))):=match stt with
 | (a2,l,l2,l1) =>
  (bif (ltB a2 (bf y)) then
   ((idx l a2).bind fun x2 =>
   (bif (gtB x1.Level 1) then
    (rcv x2 l1 a1 l2).bind fun y1 =>
    some ((l.set a2.toNat y1.1),y1.2.1,y1.2.2)
   else
    some (l,l1,l2))).bind fun(l3,l4,l5) =>
   some (.next ((bk .i64 a2 1),l3,l5,l4))
  else
   some (.out (l,l2,l1)))
def mb_reduce_ordered_1_o_o_o_o (rcv:(Int->(List Int)->(List Node)->(List Node)->Option (Int×(List Int)×(List Node)))) (k:Int) (a:List Int) (a1 cv:List Node):Option (Int×(List Int)×(List Node)) :=
 (idx a k).bind fun x =>
 (bif (gtB x 0) then
  some ((br .i64 x 1),a,cv)
 else
  (idx a1 k).bind fun x1 =>
  (m_slices_Clone_int_int x1.Next).bind fun y =>
  (bh (b_reduce_ordered_1_o_o_o_o_1 rcv k a1 x1 y) bm (0,y,cv,a)).bind fun(l,l1,l2) =>
  (bQ 32 l1 [(⟨x1.Level,l⟩:Node)]).bind fun _l3 =>
  (idx l2 k).bind fun _x2 =>
  some ((br .i64 ((bf l1)+1) 1),(l2.set k.toNat ((bf l1)+1)),(l1++[(⟨x1.Level,l⟩:Node)])))
def m_reduce_ordered_1_o_o_o_o (k:Int) (a:List Int) (a1 cv:List Node):Option (Int×(List Int)×(List Node)):=recN mb_reduce_ordered_1_o_o_o_o (fun _ _ _ _=>none) recF k a a1 cv
def m_reduce_ordered (nodes:List Node) (root:Int):Option (List Node) :=
 (mkL 8 (bf nodes) (bf nodes) 0).bind fun _l =>
 (m_reduce_ordered_1_o_o_o_o root (List.replicate (bf nodes).toNat 0) nodes []).bind fun y =>
 some y.2.2
def b_reduce_rebuilt_reduce_Reduce_1_2 (_t:Tree) (_a:Int) (_mp:List (List UInt8×Int)) (_l:List Node) (to_:List Int) (x:Node) (y:List Int) (stt:Int×(List Int)):Option (Lp (Int×(List Int)) ((List Int))):=match stt with
 | (a1,next) =>
  (bif (ltB a1 (bf y)) then
   ((idx next a1).bind fun x1 =>
   (bif (gtB x.Level 1) then
    (idx to_ x1).bind fun x2 =>
    some (next.set a1.toNat x2)
   else
    some next)).bind fun aJ =>
   some (.next ((bk .i64 a1 1),aJ))
  else
   some (.out next))
def b_reduce_rebuilt_reduce_Reduce_1_1 (t:Tree) (stt:Int×(List (List UInt8×Int))×(List Node)×(List Int)):Option (Lp (Int×(List (List UInt8×Int))×(List Node)×(List Int)) (((List (List UInt8×Int))×(List Node)×(List Int)))):=match stt with
 | (a,mp,l,to_) =>
  (bif (ltB a (bf t.Nodes)) then
   (idx t.Nodes a).bind fun x =>
   (m_slices_Clone_int_int x.Next).bind fun y =>
   (bh (b_reduce_rebuilt_reduce_Reduce_1_2 t a mp l to_ x y) bm (0,y)).bind fun next =>
   (m_reduce_Reduce_1 x.Level next).bind fun y1 =>
   (m_reduce_builder_node_o l mp x.Level y1).bind fun y2 =>
   (bQ 8 to_ [y2.1]).bind fun _l1 =>
   some (.next ((bk .i64 a 1),y2.2.1,y2.2.2,(to_++[y2.1])))
  else
   some (.out (mp,l,to_)))
def m_reduce_rebuilt_reduce_Reduce_1 (t:Tree):Option (Tree) :=
 (bh (b_reduce_rebuilt_reduce_Reduce_1_1 t) bm (0,[],[],[])).bind fun(_mp,l,to_) =>
 (m_slices_Clone_api_Point_api_Point t.Hood).bind fun y =>
 (idx to_ (br .i64 (bf to_) 1)).bind fun x =>
 (m_reduce_ordered l x).bind fun y1 =>
 some (⟨t.States,y,y1⟩:Tree)
def m_reduce_Reduce (t:Tree):Option (Tree) :=
 (m_tree_Right t).bind fun y =>
 (bif (bW y) then
  some (⟨0,[],[]⟩:Tree)
 else
  (m_reduce_rebuilt_reduce_Reduce_1 t).bind fun y1 =>
  some y1)
def m_lower_Bits (states:Int):Option (Int) :=
 (bif (eqB states 2) then
  some 1
 else
  ((bif (eqB states 3) then
   some (eqB states 3)
  else
   some (eqB states 4))).bind fun a =>
  (bif a then
   some 2
  else
   ((bif (gtB states 4) then
    some (leB states 8)
   else
    some false)).bind fun a1 =>
   (bif a1 then
    some 3
   else
    some 0)))
def m_unroll_start (t:Tree):Option (Int×(List Point)×(List Node)×Int) :=
 (m_reduce_Reduce t).bind fun y =>
 (m_lower_Bits t.States).bind fun y1 =>
 some (y.States,y.Hood,y.Nodes,y1)
def b_hood_Radius_1 (l:List Point) (stt:Int×Int):Option (Lp (Int×Int) (Int)):=match stt with
 | (r_,a) =>
  (bif (ltB a (bf l)) then
   (idx l a).bind fun x =>
   some (.next ((d7 (d7 (d7 (d7 r_ x.X) (bH .i64 x.X)) x.Y) (bH .i64 x.Y)),(bk .i64 a 1)))
  else
   some (.out r_))
def m_hood_Radius (l:List Point):Option (Int) :=
 ((m_hood_Right l).bind fun y =>
 (bif y then
  (bh (b_hood_Radius_1 l) bm (0,0)).bind fun r_ =>
  some r_
 else
  some 0)).bind fun r_ =>
 some r_
def b_unroll_builder_fresh_o_1 (_ag:List (List Int)) (_a8:Int) (_ae:List Point) (_ab:List Node) (aj:Int) (_ah:List (List UInt8×Tree)) (stt:Int×(List Int)×Int):Option (Lp (Int×(List Int)×Int) (((List Int)×Int))):=match stt with
 | (a,l,ai) =>
  (bif (ltB a aj) then
   (bQ 8 l [(bk .i64 ai 1)]).bind fun _l1 =>
   some (.next ((bk .i64 a 1),(l++[(bk .i64 ai 1)]),(bk .i64 ai 1)))
  else
   some (.out (l,ai)))
def m_unroll_builder_fresh_o (aa:Int) (ag:List (List Int)) (a8:Int) (ae:List Point) (ab:List Node) (aj:Int) (ah:List (List UInt8×Tree)):Option ((List Int)×Int) :=
 (bh (b_unroll_builder_fresh_o_1 ag a8 ae ab aj ah) bm (0,[],aa)).bind fun(l,ai) =>
 some (l,ai)
def b_unroll_against_1 (cv:Int) (y:List Int) (stt:Int×(List Int)):Option (Lp (Int×(List Int)) ((List Int))):=match stt with
 | (a,l) =>
  (bif (ltB a (bf y)) then
   ((ishr .i64 cv a).bind fun n =>
   (bif (eqB (iand .i64 n 1) 1) then
    (idx l a).bind fun x =>
    some (l.set a.toNat (bH .i64 x))
   else
    some l)).bind fun l1 =>
   some (.next ((bk .i64 a 1),l1))
  else
   some (.out l))
def m_unroll_against (vars:List Int) (cv:Int):Option (List Int) :=
 (m_slices_Clone_int_int vars).bind fun y =>
 (bh (b_unroll_against_1 cv y) bm (0,y)).bind fun l =>
 some l
def m_unroll_builder_clause_o (_aa:Int) (ag:List (List Int)) (_a8:Int) (_ae:List Point) (_ab:List Node) (_aj:Int) (_ah:List (List UInt8×Tree)) (l:List Int):Option (Unit) :=
 (bQ 24 ag [l]).bind fun _l1 =>
 some ()
def b_unroll_builder_free_o_1 (ag:List (List Int)) (a8:Int) (ae:List Point) (ab:List Node) (aj:Int) (ah:List (List UInt8×Tree)) (box:Box) (stt:Int×(List Bn)×Int):Option (Lp (Int×(List Bn)×Int) (((List Bn)×Int))):=match stt with
 | (a,l,ai) =>
  (bif (ltB a (bB .i64 box.W box.H)) then
   (m_unroll_builder_fresh_o ai ag a8 ae ab aj ah).bind fun y =>
   (neE y.1).bind fun _u =>
   (bQ 32 l [(⟨0,y.1⟩:Bn)]).bind fun _l1 =>
   some (.next ((bk .i64 a 1),(l++[(⟨0,y.1⟩:Bn)]),y.2))
  else
   some (.out (l,ai)))
def b_unroll_builder_free_o_3 (a8:Int) (ae:List Point) (ab:List Node) (aj:Int) (ah:List (List UInt8×Tree)) (_box:Box) (_l:List Bn) (ai _a:Int) (x:Bn) (stt:Int×(List (List Int))):Option (Lp (Int×(List (List Int))) ((List (List Int)))):=match stt with
 | (cv,l2) =>
  (ishl .i64 1 aj).bind fun n =>
  (bif (ltB cv n) then
   (neE x.vars).bind fun _u =>
   (m_unroll_against x.vars cv).bind fun y =>
   (m_unroll_builder_clause_o ai l2 a8 ae ab aj ah y).bind fun _y1 =>
   some (.next ((bk .i64 cv 1),(l2++[y])))
  else
   some (.out l2))
def b_unroll_builder_free_o_2 (a8:Int) (ae:List Point) (ab:List Node) (aj:Int) (ah:List (List UInt8×Tree)) (box:Box) (l:List Bn) (ai:Int) (stt:Int×(List (List Int))):Option (Lp (Int×(List (List Int))) ((List (List Int)))):=match stt with
 | (a,l1) =>
  (bif (ltB a (bf l)) then
   (idx l a).bind fun x =>
   (bh (b_unroll_builder_free_o_3 a8 ae ab aj ah box l ai a x) bm (a8,l1)).bind fun l2 =>
   some (.next ((bk .i64 a 1),l2))
  else
   some (.out l1))
def m_unroll_builder_free_o (aa:Int) (ag:List (List Int)) (a8:Int) (ae:List Point) (ab:List Node) (aj:Int) (ah:List (List UInt8×Tree)) (box:Box):Option ((List Bn)×(List (List Int))×Int) :=
 (bh (b_unroll_builder_free_o_1 ag a8 ae ab aj ah box) bm (0,[],aa)).bind fun(l,ai) =>
 (bh (b_unroll_builder_free_o_2 a8 ae ab aj ah box l ai) bm (0,ag)).bind fun l1 =>
 some (l,l1,ai)
def m_point_in (n:Int):Option (Bool) :=
 ((bif (geB n (-1048576)) then
  some (leB n 1048576)
 else
  some false)).bind fun a =>
 some a
def m_point_Right (b:Box):Option (Bool) :=
 ((bif (geB b.W 1) then
  (bif (ltB b.W 2097154) then
   (bif (geB b.H 1) then
    (bif (ltB b.H 2097154) then
     (m_point_in b.X).bind fun y =>
     (bif y then
      (m_point_in b.Y).bind fun y1 =>
      (bif y1 then
       (m_point_in (br .i64 (bk .i64 b.X b.W) 1)).bind fun y2 =>
       (bif y2 then
        (m_point_in (br .i64 (bk .i64 b.Y b.H) 1)).bind fun y3 =>
        some y3
       else
        some false)
      else
       some false)
     else
      some false)
    else
     some false)
   else
    some false)
  else
   some false)
 else
  some false)).bind fun a =>
 some a
def m_symmetry_Apply (k:Int) (p:Point):Option (Point) :=
 (aidx 8 g0R (iand .i64 k 7)).bind fun x =>
 some (⟨(bk .i64 (bB .i64 x.1 p.X) (bB .i64 x.2.1 p.Y)),(bk .i64 (bB .i64 x.2.2.1 p.X) (bB .i64 x.2.2.2 p.Y))⟩:Point)
def m_symmetry_Turn (k:Int) (b:Box):Option (Box) :=
 (m_point_Right b).bind fun y =>
 (bif (bW y) then
  some (⟨0,0,0,0⟩:Box)
 else
  (m_symmetry_Apply k (⟨b.X,b.Y⟩:Point)).bind fun y1 =>
  (m_symmetry_Apply k (⟨(br .i64 (bk .i64 b.X b.W) 1),(br .i64 (bk .i64 b.Y b.H) 1)⟩:Point)).bind fun y2 =>
  some (⟨(ii y1.X y2.X),(ii y1.Y y2.Y),(bk .i64 (br .i64 (d7 y1.X y2.X) (ii y1.X y2.X)) 1),(bk .i64 (br .i64 (d7 y1.Y y2.Y) (ii y1.Y y2.Y)) 1)⟩:Box))
def m_symmetry_Within (k:Int) (b:Box) (p:Point):Option (Point) :=
 ((m_point_Right b).bind fun y =>
 (bif (bW y) then
  some true
 else
  (m_point_Right (⟨p.X,p.Y,1,1⟩:Box)).bind fun y1 =>
  some (bW y1))).bind fun a =>
 (bif a then
  some (⟨0,0⟩:Point)
 else
  (m_symmetry_Turn k b).bind fun y =>
  (m_symmetry_Apply k p).bind fun y1 =>
  some (⟨(br .i64 y1.X y.X),(br .i64 y1.Y y.Y)⟩:Point))
def m_unroll_field_at (f:Bo) (x y:Int):Option (Bn) :=
 ((bif (ltB (br .i64 x f.box.X) 0) then
  some true
 else
  (bif (geB (br .i64 x f.box.X) f.box.W) then
   some true
  else
   (bif (ltB (br .i64 y f.box.Y) 0) then
    some true
   else
    some (geB (br .i64 y f.box.Y) f.box.H))))).bind fun a =>
 (bif a then
  some (⟨0,[]⟩:Bn)
 else
  (idx f.values (bk .i64 (bB .i64 (br .i64 y f.box.Y) f.box.W) (br .i64 x f.box.X))).bind fun x1 =>
  some x1)
def b_unroll_builder_same_o_1 (aa a8:Int) (ae:List Point) (ab:List Node) (aj:Int) (ah:List (List UInt8×Tree)) (x y:List Int) (stt:Int×(List (List Int))):Option (Lp (Int×(List (List Int))) ((List (List Int)))):=match stt with
 | (a,l) =>
  (bif (ltB a (bf x)) then
   (idx x a).bind fun x1 =>
   (idx y a).bind fun x2 =>
   (m_unroll_builder_clause_o aa l a8 ae ab aj ah [(bH .i64 x1),x2]).bind fun _y1 =>
   (m_unroll_builder_clause_o aa (l++[[(bH .i64 x1),x2]]) a8 ae ab aj ah [x1,(bH .i64 x2)]).bind fun _y2 =>
   some (.next ((bk .i64 a 1),((l++[[(bH .i64 x1),x2]])++[[x1,(bH .i64 x2)]])))
  else
   some (.out l))
def m_unroll_builder_same_o (aa:Int) (ag:List (List Int)) (a8:Int) (ae:List Point) (ab:List Node) (aj:Int) (ah:List (List UInt8×Tree)) (x y:List Int):Option (List (List Int)) :=
 (bh (b_unroll_builder_same_o_1 aa a8 ae ab aj ah x y) bm (0,ag)).bind fun l =>
 some l
def b_reduce_Fix_1_o_o_o_o_1 (next:List Int) (_aL:Int) (_aV:List Point) (_aQ:List Node) (_a a1:Int) (stt:Int×(List Int)):Option (Lp (Int×(List Int)) ((List Int))):=match stt with
 | (a2,aJ) =>
  (bif (ltB a2 (bf next)) then
   ((bif (neB a2 a1) then
    (idx aJ a1).bind fun x =>
    (idx aJ a2).bind fun _x1 =>
    some (aJ.set a2.toNat x)
   else
    some aJ)).bind fun next2 =>
   some (.next ((bk .i64 a2 1),next2))
  else
   some (.out aJ))
def m_reduce_Fix_1_o_o_o_o (level:Int) (next:List Int) (aL:Int) (aV:List Point) (aQ:List Node) (a a1:Int):Option (List Int) :=
 ((bif (eqB level (br .i64 (bf aV) a)) then
  (bh (b_reduce_Fix_1_o_o_o_o_1 next aL aV aQ a a1) bm (0,next)).bind fun aJ =>
  some aJ
 else
  some next)).bind fun aJ =>
 some aJ
def b_reduce_builder_node_o_o_1 (_aA:List Node) (_ak:List (List UInt8×Int)) (_level:Int) (next:List Int) (stt:Int×(List Int)):Option (Lp (Int×(List Int)) ((List Int))):=match stt with
 | (a,keyv) =>
  (bif (ltB a (bf next)) then
   (idx next a).bind fun x =>
   (bQ 1 keyv [32]).bind fun _l =>
   (m_strconv_AppendInt_o (keyv++[32]) x 10).bind fun y1 =>
   some (.next ((bk .i64 a 1),y1))
  else
   some (.out keyv))
def m_reduce_builder_node_o_o (aA:List Node) (ak:List (List UInt8×Int)) (level:Int) (next:List Int):Option (Int×(List (List UInt8×Int))×(List Node)) :=
 (m_strconv_AppendInt_N level 10).bind fun y =>
 (bh (b_reduce_builder_node_o_o_1 aA ak level next) bm (0,y)).bind fun keyv =>
 (kckS (ofBytes keyv)).bind fun _u =>
 (bif (eu ak (ofBytes keyv)) then
  some ((mgetD ak (ofBytes keyv) 0),ak,aA)
 else
  (bQ 32 aA [(⟨level,next⟩:Node)]).bind fun _l =>
  some ((br .i64 ((bf aA)+1) 1),(msetL ak (ofBytes keyv) (br .i64 ((bf aA)+1) 1)),(aA++[(⟨level,next⟩:Node)])))
def b_reduce_rebuilt_reduce_Fix_1_o_o_o_2 (_t:Tree) (_aD:Int) (_aM:List Point) (_aF:List Node) (_cv _cv1 _a:Int) (_mp:List (List UInt8×Int)) (_l:List Node) (to_:List Int) (x:Node) (y:List Int) (stt:Int×(List Int)):Option (Lp (Int×(List Int)) ((List Int))):=match stt with
 | (a1,next) =>
  (bif (ltB a1 (bf y)) then
   ((idx next a1).bind fun x1 =>
   (bif (gtB x.Level 1) then
    (idx to_ x1).bind fun x2 =>
    some (next.set a1.toNat x2)
   else
    some next)).bind fun aJ =>
   some (.next ((bk .i64 a1 1),aJ))
  else
   some (.out next))
def b_reduce_rebuilt_reduce_Fix_1_o_o_o_1 (t:Tree) (aD:Int) (aM:List Point) (aF:List Node) (cv cv1:Int) (stt:Int×(List (List UInt8×Int))×(List Node)×(List Int)):Option (Lp (Int×(List (List UInt8×Int))×(List Node)×(List Int)) (((List (List UInt8×Int))×(List Node)×(List Int)))):=match stt with
 | (a,mp,l,to_) =>
  (bif (ltB a (bf t.Nodes)) then
   (idx t.Nodes a).bind fun x =>
   (m_slices_Clone_int_int x.Next).bind fun y =>
   (bh (b_reduce_rebuilt_reduce_Fix_1_o_o_o_2 t aD aM aF cv cv1 a mp l to_ x y) bm (0,y)).bind fun next =>
   (m_reduce_Fix_1_o_o_o_o x.Level next aD aM aF cv cv1).bind fun y1 =>
   (m_reduce_builder_node_o_o l mp x.Level y1).bind fun y2 =>
   (bQ 8 to_ [y2.1]).bind fun _l1 =>
   some (.next ((bk .i64 a 1),y2.2.1,y2.2.2,(to_++[y2.1])))
  else
   some (.out (mp,l,to_)))
def m_reduce_rebuilt_reduce_Fix_1_o_o_o (t:Tree) (aD:Int) (aM:List Point) (aF:List Node) (cv cv1:Int):Option ((List Point)×(List Node)) :=
 (bh (b_reduce_rebuilt_reduce_Fix_1_o_o_o_1 t aD aM aF cv cv1) bm (0,[],[],[])).bind fun(_mp,l,to_) =>
 (m_slices_Clone_api_Point_api_Point t.Hood).bind fun y =>
 (idx to_ (br .i64 (bf to_) 1)).bind fun x =>
 (m_reduce_ordered l x).bind fun y1 =>
 some (y,y1)
def m_reduce_Fix (t:Tree) (k s:Int):Option (Tree×Int) :=
 (m_tree_Right t).bind fun y =>
 (bif (bW y) then
  some ((⟨0,[],[]⟩:Tree),11)
 else
  ((bif (ltB k 0) then
   some true
  else
   some (geB k (bf t.Hood)))).bind fun a =>
  (bif a then
   some ((⟨0,[],[]⟩:Tree),2)
  else
   ((bif (ltB s 0) then
    some true
   else
    some (geB s t.States))).bind fun a1 =>
   (bif a1 then
    some ((⟨0,[],[]⟩:Tree),10)
   else
    (m_reduce_rebuilt_reduce_Fix_1_o_o_o t t.States t.Hood t.Nodes k s).bind fun y1 =>
    some ((⟨t.States,y1.1,y1.2⟩:Tree),0))))
def b_unroll_builder_fixed_o_o_1 (_aa:Int) (_ag:List (List Int)) (_a8:Int) (_ae:List Point) (_ab:List Node) (_aj:Int) (_ah:List (List UInt8×Tree)) (in_:List Bn) (stt:Int×(List Int)):Option (Lp (Int×(List Int)) ((List Int))):=match stt with
 | (a,keyv) =>
  (bif (ltB a (bf in_)) then
   (idx in_ a).bind fun x =>
   ((bif (bW (isE x.vars)) then
    some 255
   else
    some (gt .u8 x.constant))).bind fun k =>
   (bQ 1 keyv [k]).bind fun _l =>
   some (.next ((bk .i64 a 1),(keyv++[k])))
  else
   some (.out keyv))
def b_unroll_builder_fixed_o_o_2 (_aa:Int) (_ag:List (List Int)) (_a8:Int) (_ae:List Point) (_ab:List Node) (_aj:Int) (_ah:List (List UInt8×Tree)) (in_:List Bn) (_keyv:List Int) (_u:Unit) (stt:Int×Int×(List Point)×(List Node)):Option (Lp (Int×Int×(List Point)×(List Node)) ((Int×(List Point)×(List Node)))):=match stt with
 | (a,aC,aK,aE) =>
  (bif (ltB a (bf in_)) then
   ((idx in_ a).bind fun x =>
   (bif (isE x.vars) then
    (m_reduce_Fix (⟨aC,aK,aE⟩:Tree) a x.constant).bind fun y =>
    some (y.1.States,y.1.Hood,y.1.Nodes)
   else
    some (aC,aK,aE))).bind fun(b7,tHood1,tNodes1) =>
   some (.next ((bk .i64 a 1),b7,tHood1,tNodes1))
  else
   some (.out (aC,aK,aE)))
def m_unroll_builder_fixed_o_o (aa:Int) (ag:List (List Int)) (a8:Int) (ae:List Point) (ab:List Node) (aj:Int) (ah:List (List UInt8×Tree)) (in_:List Bn):Option (Int×(List Point)×(List Node)×(List (List UInt8×Tree))) :=
 (bh (b_unroll_builder_fixed_o_o_1 aa ag a8 ae ab aj ah in_) bm (0,[])).bind fun keyv =>
 (kckS (ofBytes keyv)).bind fun u =>
 (bif (eu ah (ofBytes keyv)) then
  (eb ah (ofBytes keyv)).bind fun v =>
  some (v.States,v.Hood,v.Nodes,ah)
 else
  (bh (b_unroll_builder_fixed_o_o_2 aa ag a8 ae ab aj ah in_ keyv u) bm (0,a8,ae,ab)).bind fun(aC,aK,aE) =>
  some (aC,aK,aE,(msetL ah (ofBytes keyv) (⟨aC,aK,aE⟩:Tree))))
def m_unroll_builder_tree_2 (n:Int) (a:Node):Option (Bool) :=
 (idx a.Next 0).bind fun x =>
 some (neB n x)
def b_slices_IndexFunc_int_int_unroll_builder_tree_2_1 (s:List Int) (cv:Node) (stt:Int):Option (Lp (Int) (Int ⊕ Unit)):=match stt with
 | a =>
  (bif (ltB a (bf s)) then
   (idx s a).bind fun x =>
   (m_unroll_builder_tree_2 x cv).bind fun y =>
   (bif y then
    some (.out (.inl a))
   else
    some (.next (bk .i64 a 1)))
  else
   some (.out (.inr ())))
def m_slices_IndexFunc_int_int_unroll_builder_tree_2 (s:List Int) (cv:Node):Option (Int) :=
 (bh (b_slices_IndexFunc_int_int_unroll_builder_tree_2_1 s cv) bm 0).bind fun o=>match o with
  | .inl r =>
   some r
  | .inr _u =>
   some (-1)
def m_slices_ContainsFunc_int_int_unroll_builder_tree_2 (s:List Int) (cv:Node):Option (Bool) :=
 (m_slices_IndexFunc_int_int_unroll_builder_tree_2 s cv).bind fun y =>
 some (geB y 0)
def m_unroll_builder_tree_1_o_o (s b8:Int) (aNext:List Int) (a:List Bn):Option (Int×(List Int)) :=
 (bif (eqB b8 1) then
  (idx aNext s).bind fun x =>
  some (x,[])
 else
  (idx aNext s).bind fun x =>
  (idx a x).bind fun x1 =>
  some (x1.constant,x1.vars))
def m_unroll_builder_clause_o_o (_aa:Int) (ag:List (List Int)) (_a8:Int) (_ae:List Point) (_ab:List Node) (_aj:Int) (_ah:List (List UInt8×Tree)) (l:List Int):Option (Unit) :=
 (bQ 24 ag [l]).bind fun _l1 =>
 some ()
def m_unroll_builder_select1_1_o_o (l:List Int) (aP:Int) (aI:List (List Int)) (aR:Int) (aW:List Point) (aU:List Node) (abits:Int) (aY:List (List UInt8×Tree)) (a:List Int):Option (List (List Int)) :=
 (m_slices_Clone_int_int a).bind fun y =>
 (bQ 8 y l).bind fun _l1 =>
 (m_unroll_builder_clause_o_o aP aI aR aW aU abits aY (y++l)).bind fun _y1 =>
 some (aI++[(y++l)])
def b_unroll_builder_select1_o_1 (aa a8:Int) (ae:List Point) (ab:List Node) (aj:Int) (ah:List (List UInt8×Tree)) (aG own:List Int) (v:Bn) (stt:Int×(List (List Int))):Option (Lp (Int×(List (List Int))) ((List (List Int)))):=match stt with
 | (a,l) =>
  (bif (ltB a (bf own)) then
   ((idx own a).bind fun x =>
   (bif (bW (isE v.vars)) then
    (neE v.vars).bind fun _u =>
    (idx v.vars a).bind fun x1 =>
    (m_unroll_builder_select1_1_o_o [(bH .i64 x),x1] aa l a8 ae ab aj ah aG).bind fun y =>
    (m_unroll_builder_select1_1_o_o [x,(bH .i64 x1)] aa y a8 ae ab aj ah aG).bind fun y1 =>
    some y1
   else
    (ishr .i64 v.constant a).bind fun n =>
    (bif (eqB (iand .i64 n 1) 1) then
     (m_unroll_builder_select1_1_o_o [x] aa l a8 ae ab aj ah aG).bind fun y =>
     some y
    else
     (m_unroll_builder_select1_1_o_o [(bH .i64 x)] aa l a8 ae ab aj ah aG).bind fun y =>
     some y))).bind fun l1 =>
   some (.next ((bk .i64 a 1),l1))
  else
   some (.out l))
def m_unroll_builder_select1_o (aa:Int) (ag:List (List Int)) (a8:Int) (ae:List Point) (ab:List Node) (aj:Int) (ah:List (List UInt8×Tree)) (aG own:List Int) (v:Bn):Option (List (List Int)) :=
 (bh (b_unroll_builder_select1_o_1 aa a8 ae ab aj ah aG own v) bm (0,ag)).bind fun l =>
 some l
def b_unroll_builder_tree_o_o_2 (a8:Int) (ae:List Point) (ab:List Node) (aj:Int) (ah:List (List UInt8×Tree)) (_t:Tree) (_in_:List Bn) (a:Int) (l1:List Bn) (x:Node) (x1:Bn) (y1:(List Int)×Int) (x2:Bn) (_u:Unit) (stt:Int×(List (List Int))):Option (Lp (Int×(List (List Int))) ((List (List Int)))):=match stt with
 | (a1,l3) =>
  (bif (ltB a1 (bf x.Next)) then
   (neE x1.vars).bind fun _u1 =>
   (m_unroll_against x1.vars a1).bind fun y2 =>
   (m_unroll_builder_tree_1_o_o a1 x.Level x.Next (l1.set a.toNat (⟨x2.constant,y1.1⟩:Bn))).bind fun y3 =>
   (m_unroll_builder_select1_o y1.2 l3 a8 ae ab aj ah y2 y1.1 (⟨y3.1,y3.2⟩:Bn)).bind fun y4 =>
   some (.next ((bk .i64 a1 1),y4))
  else
   some (.out l3))
def b_unroll_builder_tree_o_o_1 (a8:Int) (ae:List Point) (ab:List Node) (aj:Int) (ah:List (List UInt8×Tree)) (t:Tree) (in_:List Bn) (stt:Int×(List Bn)×(List (List Int))×Int):Option (Lp (Int×(List Bn)×(List (List Int))×Int) (((List Bn)×(List (List Int))×Int))):=match stt with
 | (a,l1,l2,ai) =>
  (bif (ltB a (bf t.Nodes)) then
   (idx t.Nodes a).bind fun x =>
   (m_slices_ContainsFunc_int_int_unroll_builder_tree_2 x.Next x).bind fun y =>
   (bif (bW y) then
    (m_unroll_builder_tree_1_o_o 0 x.Level x.Next l1).bind fun y1 =>
    (idx l1 a).bind fun _x1 =>
    some (.next ((bk .i64 a 1),(l1.set a.toNat (⟨y1.1,y1.2⟩:Bn)),l2,ai))
   else
    (idx in_ (br .i64 (bf t.Hood) x.Level)).bind fun x1 =>
    (m_unroll_builder_fresh_o ai l2 a8 ae ab aj ah).bind fun y1 =>
    (idx l1 a).bind fun x2 =>
    (neE y1.1).bind fun u =>
    (bh (b_unroll_builder_tree_o_o_2 a8 ae ab aj ah t in_ a l1 x x1 y1 x2 u) bm (0,l2)).bind fun l3 =>
    some (.next ((bk .i64 a 1),(l1.set a.toNat (⟨x2.constant,y1.1⟩:Bn)),l3,y1.2)))
  else
   some (.out (l1,l2,ai)))
def m_unroll_builder_tree_o_o (aa:Int) (ag:List (List Int)) (a8:Int) (ae:List Point) (ab:List Node) (aj:Int) (ah:List (List UInt8×Tree)) (t:Tree) (in_:List Bn):Option (Int×(List Int)×(List (List Int))×Int) :=
 (mkL 32 (bf t.Nodes) (bf t.Nodes) (⟨0,[]⟩:Bn)).bind fun _l =>
 (bh (b_unroll_builder_tree_o_o_1 a8 ae ab aj ah t in_) bm (0,(List.replicate (bf t.Nodes).toNat (⟨0,[]⟩:Bn)),ag,aa)).bind fun(l1,l2,ai) =>
 (idx l1 (br .i64 (bf l1) 1)).bind fun x =>
 some (x.constant,x.vars,l2,ai)
def m_unroll_builder_large_o (aa:Int) (ag:List (List Int)) (_a8:Int) (_ae:List Point) (_ab:List Node) (_aj:Int) (_ah:List (List UInt8×Tree)):Option (Bool) :=
 ((bif (gtB aa 65536) then
  some true
 else
  some (gtB (bf ag) 262144))).bind fun a =>
 some a
def b_unroll_builder_next_o_3 (_a8:Int) (ae:List Point) (_ab:List Node) (_aj:Int) (f:Bo) (_box:Box) (_fixed:Bool) (y x:Int) (_l2:List Bn) (_l3:List (List Int)) (_ax:Int) (_mp1:List (List UInt8×Tree)) (stt:Int×(List Bn)):Option (Lp (Int×(List Bn)) ((List Bn))):=match stt with
 | (a,in_) =>
  (bif (ltB a (bf ae)) then
   (idx ae a).bind fun x1 =>
   (m_unroll_field_at f (bk .i64 x x1.X) (bk .i64 y x1.Y)).bind fun y1 =>
   (bQ 32 in_ [y1]).bind fun _l4 =>
   some (.next ((bk .i64 a 1),(in_++[y1])))
  else
   some (.out in_))
def b_unroll_builder_next_o_2 (a8:Int) (ae:List Point) (ab:List Node) (aj:Int) (f:Bo) (box:Box) (fixed:Bool) (y:Int) (stt:Int×(List Bn)×(List (List Int))×Int×(List (List UInt8×Tree))):Option (Lp (Int×(List Bn)×(List (List Int))×Int×(List (List UInt8×Tree))) ((Int×Int×Int×Int×(List Bn)×Bool×Int×(List (List UInt8×Tree))×(List (List Int))) ⊕ ((List Bn)×(List (List Int))×Int×(List (List UInt8×Tree))))):=match stt with
 | (x,l2,l3,ax,mp1) =>
  (bif (ltB x (bk .i64 box.X box.W)) then
   (bh (b_unroll_builder_next_o_3 a8 ae ab aj f box fixed y x l2 l3 ax mp1) bm (0,[])).bind fun in_ =>
   ((bif fixed then
    (m_unroll_builder_fixed_o_o ax l3 a8 ae ab aj mp1 in_).bind fun y1 =>
    some (y1.1,y1.2.1,y1.2.2.1,y1.2.2.2)
   else
    some (a8,ae,ab,mp1))).bind fun(aC,aK,aE,mp2) =>
   (m_unroll_builder_tree_o_o ax l3 a8 ae ab aj mp2 (⟨aC,aK,aE⟩:Tree) in_).bind fun y1 =>
   (bQ 32 l2 [(⟨y1.1,y1.2.1⟩:Bn)]).bind fun _l4 =>
   (m_unroll_builder_large_o y1.2.2.2 y1.2.2.1 a8 ae ab aj mp2).bind fun y2 =>
   (bif y2 then
    some (.out (.inl (0,0,0,0,[],false,y1.2.2.2,mp2,y1.2.2.1)))
   else
    some (.next ((bk .i64 x 1),(l2++[(⟨y1.1,y1.2.1⟩:Bn)]),y1.2.2.1,y1.2.2.2,mp2)))
  else
   some (.out (.inr (l2,l3,ax,mp1))))
def b_unroll_builder_next_o_1 (a8:Int) (ae:List Point) (ab:List Node) (aj:Int) (f:Bo) (box:Box) (fixed:Bool) (stt:Int×(List Bn)×(List (List Int))×Int×(List (List UInt8×Tree))):Option (Lp (Int×(List Bn)×(List (List Int))×Int×(List (List UInt8×Tree))) ((Int×Int×Int×Int×(List Bn)×Bool×Int×(List (List UInt8×Tree))×(List (List Int))) ⊕ ((List Bn)×(List (List Int))×Int×(List (List UInt8×Tree))))):=match stt with
 | (y,l,l1,ai,mp) =>
  (bif (ltB y (bk .i64 box.Y box.H)) then
   (bh (b_unroll_builder_next_o_2 a8 ae ab aj f box fixed y) bm (box.X,l,l1,ai,mp)).bind fun o=>match o with
    | .inl r =>
     some (.out (.inl r))
    | .inr (l2,l3,ax,mp1) =>
     some (.next ((bk .i64 y 1),l2,l3,ax,mp1))
  else
   some (.out (.inr (l,l1,ai,mp))))
def m_unroll_builder_next_o (aa:Int) (ag:List (List Int)) (a8:Int) (ae:List Point) (ab:List Node) (aj:Int) (ah:List (List UInt8×Tree)) (f:Bo) (box:Box) (fixed:Bool):Option (Int×Int×Int×Int×(List Bn)×Bool×Int×(List (List UInt8×Tree))×(List (List Int))) :=
 (bh (b_unroll_builder_next_o_1 a8 ae ab aj f box fixed) bm (box.Y,[],ag,aa,ah)).bind fun o=>match o with
  | .inl r =>
   some r
  | .inr (l,l1,ai,mp) =>
   some (box.X,box.Y,box.W,box.H,l,true,ai,mp,l1)
def m_unroll_field_in (f:Bo) (x y:Int):Option (Bool) :=
 ((bif (geB x f.box.X) then
  (bif (ltB x (bk .i64 f.box.X f.box.W)) then
   (bif (geB y f.box.Y) then
    some (ltB y (bk .i64 f.box.Y f.box.H))
   else
    some false)
  else
   some false)
 else
  some false)).bind fun a =>
 some a
def b_unroll_builder_fix_o_1 (aa a8:Int) (ae:List Point) (ab:List Node) (aj:Int) (ah:List (List UInt8×Tree)) (vars:List Int) (cv:Int) (stt:Int×(List (List Int))):Option (Lp (Int×(List (List Int))) ((List (List Int)))):=match stt with
 | (a,l) =>
  (bif (ltB a (bf vars)) then
   (idx vars a).bind fun x =>
   ((ishr .i64 cv a).bind fun n =>
   (bif (eqB (iand .i64 n 1) 0) then
    some (bH .i64 x)
   else
    some x)).bind fun v =>
   (m_unroll_builder_clause_o aa l a8 ae ab aj ah [v]).bind fun _y =>
   some (.next ((bk .i64 a 1),(l++[[v]])))
  else
   some (.out l))
def m_unroll_builder_fix_o (aa:Int) (ag:List (List Int)) (a8:Int) (ae:List Point) (ab:List Node) (aj:Int) (ah:List (List UInt8×Tree)) (vars:List Int) (cv:Int):Option (List (List Int)) :=
 (bh (b_unroll_builder_fix_o_1 aa a8 ae ab aj ah vars cv) bm (0,ag)).bind fun l =>
 some l
def b_unroll_Formula_2 (x:Bl) (y1:Int×(List Point)×(List Node)×Int) (_y2:Int) (y3:(List Bn)×(List (List Int))×Int) (_a x1:Int) (stt:Int×(List (List Int))):Option (Lp (Int×(List (List Int))) ((List (List Int)))):=match stt with
 | (a1,l1) =>
  (bif (ltB a1 (bf y3.1)) then
   (idx y3.1 a1).bind fun x2 =>
   (i7 a1 x.W).bind fun n =>
   (iquo .i64 a1 x.W).bind fun n1 =>
   (m_symmetry_Within x1 (⟨(⟨0,0,x.W,x.H⟩:Box).X,(⟨0,0,x.W,x.H⟩:Box).Y,(⟨0,0,x.W,x.H⟩:Box).W,(⟨0,0,x.W,x.H⟩:Box).H⟩:Box) (⟨n,n1⟩:Point)).bind fun y4 =>
   (m_unroll_field_at (⟨⟨(⟨0,0,x.W,x.H⟩:Box).X,(⟨0,0,x.W,x.H⟩:Box).Y,(⟨0,0,x.W,x.H⟩:Box).W,(⟨0,0,x.W,x.H⟩:Box).H⟩,y3.1⟩:Bo) y4.X y4.Y).bind fun y5 =>
   (neE x2.vars).bind fun _u =>
   (neE y5.vars).bind fun _u1 =>
   (m_unroll_builder_same_o y3.2.2 l1 y1.1 y1.2.1 y1.2.2.1 y1.2.2.2 [] x2.vars y5.vars).bind fun y6 =>
   some (.next ((bk .i64 a1 1),y6))
  else
   some (.out l1))
def b_unroll_Formula_1 (x:Bl) (y1:Int×(List Point)×(List Node)×Int) (y2:Int) (y3:(List Bn)×(List (List Int))×Int) (stt:Int×(List (List Int))):Option (Lp (Int×(List (List Int))) ((List (List Int)))):=match stt with
 | (a,l) =>
  (bif (ltB a (bf x.Syms)) then
   (idx x.Syms a).bind fun x1 =>
   (bh (b_unroll_Formula_2 x y1 y2 y3 a x1) bm (0,l)).bind fun l1 =>
   some (.next ((bk .i64 a 1),l1))
  else
   some (.out l))
def b_unroll_Formula_3 (x:Bl) (y1:Int×(List Point)×(List Node)×Int) (y2:Int) (_y3:(List Bn)×(List (List Int))×Int) (stt:Int×Int×Int×Int×Int×(List Bn)×(List (List UInt8×Tree))×Int×(List (List Int))):Option (Lp (Int×Int×Int×Int×Int×(List Bn)×(List (List UInt8×Tree))×Int×(List (List Int))) ((Bm×Int×Int) ⊕ (Int×Int×Int×Int×(List Bn)×(List (List UInt8×Tree))×Int×(List (List Int))))):=match stt with
 | (gv,au,ar,av,aw,aq,mp,aa,l1) =>
  (bif (leB gv x.Gens) then
   (m_unroll_builder_next_o aa l1 y1.1 y1.2.1 y1.2.2.1 y1.2.2.2 mp (⟨⟨au,ar,av,aw⟩,aq⟩:Bo) (⟨(bB .i64 (bH .i64 gv) y2),(bB .i64 (bH .i64 gv) y2),(bk .i64 x.W (bB .i64 (bB .i64 2 gv) y2)),(bk .i64 x.H (bB .i64 (bB .i64 2 gv) y2))⟩:Box) true).bind fun y4 =>
   (bif (bW y4.2.2.2.2.2.1) then
    some (.out (.inl ((⟨0,[]⟩:Bm),0,6)))
   else
    some (.next ((bk .i64 gv 1),y4.1,y4.2.1,y4.2.2.1,y4.2.2.2.1,y4.2.2.2.2.1,y4.2.2.2.2.2.2.2.1,y4.2.2.2.2.2.2.1,y4.2.2.2.2.2.2.2.2)))
  else
   some (.out (.inr (au,ar,av,aw,aq,mp,aa,l1))))
def b_unroll_Formula_4 (x:Bl) (y1:Int×(List Point)×(List Node)×Int) (y3:(List Bn)×(List (List Int))×Int) (au ar av _aw:Int) (aq:List Bn) (mp:List (List UInt8×Tree)) (aa:Int) (stt:Int×(List (List Int))):Option (Lp (Int×(List (List Int))) ((List (List Int)))):=match stt with
 | (a,l2) =>
  (bif (ltB a (bf aq)) then
   ((idx aq a).bind fun x1 =>
   (i7 a av).bind fun n =>
   (iquo .i64 a av).bind fun n1 =>
   (m_unroll_field_in (⟨⟨(⟨0,0,x.W,x.H⟩:Box).X,(⟨0,0,x.W,x.H⟩:Box).Y,(⟨0,0,x.W,x.H⟩:Box).W,(⟨0,0,x.W,x.H⟩:Box).H⟩,y3.1⟩:Bo) (br .i64 (bk .i64 au n) x.DX) (br .i64 (bk .i64 ar n1) x.DY)).bind fun y4 =>
   ((bif (bW (isE x1.vars)) then
    some y4
   else
    some false)).bind fun a1 =>
   (bif a1 then
    (m_unroll_field_at (⟨⟨(⟨0,0,x.W,x.H⟩:Box).X,(⟨0,0,x.W,x.H⟩:Box).Y,(⟨0,0,x.W,x.H⟩:Box).W,(⟨0,0,x.W,x.H⟩:Box).H⟩,y3.1⟩:Bo) (br .i64 (bk .i64 au n) x.DX) (br .i64 (bk .i64 ar n1) x.DY)).bind fun y5 =>
    (neE x1.vars).bind fun _u =>
    (neE y5.vars).bind fun _u1 =>
    (m_unroll_builder_same_o aa l2 y1.1 y1.2.1 y1.2.2.1 y1.2.2.2 mp x1.vars y5.vars).bind fun y6 =>
    some y6
   else
    (bif (bW (isE x1.vars)) then
     (neE x1.vars).bind fun _u =>
     (m_unroll_builder_fix_o aa l2 y1.1 y1.2.1 y1.2.2.1 y1.2.2.2 mp x1.vars 0).bind fun y5 =>
     some y5
    else
     (bif y4 then
      (m_unroll_field_at (⟨⟨(⟨0,0,x.W,x.H⟩:Box).X,(⟨0,0,x.W,x.H⟩:Box).Y,(⟨0,0,x.W,x.H⟩:Box).W,(⟨0,0,x.W,x.H⟩:Box).H⟩,y3.1⟩:Bo) (br .i64 (bk .i64 au n) x.DX) (br .i64 (bk .i64 ar n1) x.DY)).bind fun y5 =>
      (neE y5.vars).bind fun _u =>
      (m_unroll_builder_fix_o aa l2 y1.1 y1.2.1 y1.2.2.1 y1.2.2.2 mp y5.vars 0).bind fun y6 =>
      some y6
     else
      some l2)))).bind fun l3 =>
   some (.next ((bk .i64 a 1),l3))
  else
   some (.out l2))
def b_unroll_Formula_5 (x:Bl) (y1:Int×(List Point)×(List Node)×Int) (y3:(List Bn)×(List (List Int))×Int) (au ar av aw:Int) (aq:List Bn) (mp:List (List UInt8×Tree)) (aa:Int) (stt:Int×(List (List Int))):Option (Lp (Int×(List (List Int))) ((List (List Int)))):=match stt with
 | (a,l3) =>
  (bif (ltB a (bf y3.1)) then
   ((idx y3.1 a).bind fun x1 =>
   (i7 a x.W).bind fun n =>
   (iquo .i64 a x.W).bind fun n1 =>
   (m_unroll_field_in (⟨⟨au,ar,av,aw⟩,aq⟩:Bo) (bk .i64 n x.DX) (bk .i64 n1 x.DY)).bind fun y4 =>
   (bif (bW y4) then
    (neE x1.vars).bind fun _u =>
    (m_unroll_builder_fix_o aa l3 y1.1 y1.2.1 y1.2.2.1 y1.2.2.2 mp x1.vars 0).bind fun y5 =>
    some y5
   else
    some l3)).bind fun l4 =>
   some (.next ((bk .i64 a 1),l4))
  else
   some (.out l3))
def m_unroll_Formula (t:Tree) (x:Bl):Option (Bm×Int×Int) :=
 (m_problem_Check t x).bind fun y =>
 (bif (neB y 0) then
  some ((⟨0,[]⟩:Bm),0,y)
 else
  (m_unroll_start t).bind fun y1 =>
  (m_hood_Radius t.Hood).bind fun y2 =>
  (m_unroll_builder_free_o 0 [] y1.1 y1.2.1 y1.2.2.1 y1.2.2.2 [] (⟨0,0,x.W,x.H⟩:Box)).bind fun y3 =>
  (bh (b_unroll_Formula_1 x y1 y2 y3) bm (0,y3.2.1)).bind fun l =>
  (bh (b_unroll_Formula_3 x y1 y2 y3) bm (1,(⟨0,0,x.W,x.H⟩:Box).X,(⟨0,0,x.W,x.H⟩:Box).Y,(⟨0,0,x.W,x.H⟩:Box).W,(⟨0,0,x.W,x.H⟩:Box).H,y3.1,[],y3.2.2,l)).bind fun o=>match o with
   | .inl r =>
    some r
   | .inr (au,ar,av,aw,aq,mp,aa,l1) =>
    (bh (b_unroll_Formula_4 x y1 y3 au ar av aw aq mp aa) bm (0,l1)).bind fun l2 =>
    (bh (b_unroll_Formula_5 x y1 y3 au ar av aw aq mp aa) bm (0,l2)).bind fun l3 =>
    (m_unroll_builder_large_o aa l3 y1.1 y1.2.1 y1.2.2.1 y1.2.2.2 mp).bind fun y4 =>
    (bif y4 then
     some ((⟨0,[]⟩:Bm),0,6)
    else
     some ((⟨aa,l3⟩:Bm),y3.2.2,0)))
def m_grid_sized (w hv edge:Int):Option (Bool) :=
 ((bif (geB w 1) then
  (bif (leB w 256) then
   (bif (geB hv 1) then
    (bif (leB hv 256) then
     (bif (leB (bB .i64 w hv) 4096) then
      (bif (geB edge 0) then
       some (leB edge 2)
      else
       some false)
     else
      some false)
    else
     some false)
   else
    some false)
  else
   some false)
 else
  some false)).bind fun a =>
 some a
def m_grid_Right_1 (s:Int):Option (Bool) :=
 ((bif (ltB s 0) then
  some true
 else
  some (geB s 8))).bind fun a =>
 some a
def b_slices_IndexFunc_int_int_grid_Right_1_1 (s:List Int) (stt:Int):Option (Lp (Int) (Int ⊕ Unit)):=match stt with
 | a =>
  (bif (ltB a (bf s)) then
   (idx s a).bind fun x =>
   (m_grid_Right_1 x).bind fun y =>
   (bif y then
    some (.out (.inl a))
   else
    some (.next (bk .i64 a 1)))
  else
   some (.out (.inr ())))
def m_slices_IndexFunc_int_int_grid_Right_1 (s:List Int):Option (Int) :=
 (bh (b_slices_IndexFunc_int_int_grid_Right_1_1 s) bm 0).bind fun o=>match o with
  | .inl r =>
   some r
  | .inr _u =>
   some (-1)
def m_slices_ContainsFunc_int_int_grid_Right_1 (s:List Int):Option (Bool) :=
 (m_slices_IndexFunc_int_int_grid_Right_1 s).bind fun y =>
 some (geB y 0)
def m_grid_Right (gv:Grid):Option (Bool) :=
 ((m_grid_sized gv.W gv.H gv.Edge).bind fun y =>
 (bif y then
  (bif (eqB (bf gv.Cells) (bB .i64 gv.W gv.H)) then
   (m_slices_ContainsFunc_int_int_grid_Right_1 gv.Cells).bind fun y1 =>
   some (bW y1)
  else
   some false)
 else
  some false)).bind fun a =>
 some a
def m_unroll_Parents_1 (s:Int) (a:Tree):Option (Bool) :=
 some (geB s a.States)
def b_slices_IndexFunc_int_int_unroll_Parents_1_1 (s:List Int) (cv:Tree) (stt:Int):Option (Lp (Int) (Int ⊕ Unit)):=match stt with
 | a =>
  (bif (ltB a (bf s)) then
   (idx s a).bind fun x =>
   (m_unroll_Parents_1 x cv).bind fun y =>
   (bif y then
    some (.out (.inl a))
   else
    some (.next (bk .i64 a 1)))
  else
   some (.out (.inr ())))
def m_slices_IndexFunc_int_int_unroll_Parents_1 (s:List Int) (cv:Tree):Option (Int) :=
 (bh (b_slices_IndexFunc_int_int_unroll_Parents_1_1 s cv) bm 0).bind fun o=>match o with
  | .inl r =>
   some r
  | .inr _u =>
   some (-1)
def m_slices_ContainsFunc_int_int_unroll_Parents_1 (s:List Int) (cv:Tree):Option (Bool) :=
 (m_slices_IndexFunc_int_int_unroll_Parents_1 s cv).bind fun y =>
 some (geB y 0)
def m_unroll_builder_clause_o_N (_aa:Int) (ag:List (List Int)) (_a8:Int) (_ae:List Point) (_ab:List Node) (_aj:Int) (_ah:List (List UInt8×Tree)):Option (Unit) :=
 (bQ 24 ag [[]]).bind fun _l =>
 some ()
def b_unroll_Parents_1 (gv:Grid) (y3:Int) (y4:Int×(List Point)×(List Node)×Int) (y5:(List Bn)×(List (List Int))×Int) (stt:Int×(List (List UInt8×Tree))×Int×(List (List Int))):Option (Lp (Int×(List (List UInt8×Tree))×Int×(List (List Int))) ((Bm×Int×Int) ⊕ ((List (List UInt8×Tree))×Int×(List (List Int))))):=match stt with
 | (a,mp,aa,l) =>
  (bif (ltB a (bf gv.Cells)) then
   (idx gv.Cells a).bind fun x =>
   (i7 a gv.W).bind fun n =>
   (iquo .i64 a gv.W).bind fun n1 =>
   (m_unroll_builder_next_o aa l y4.1 y4.2.1 y4.2.2.1 y4.2.2.2 mp (⟨⟨(⟨(bH .i64 y3),(bH .i64 y3),(bk .i64 gv.W (bB .i64 2 y3)),(bk .i64 gv.H (bB .i64 2 y3))⟩:Box).X,(⟨(bH .i64 y3),(bH .i64 y3),(bk .i64 gv.W (bB .i64 2 y3)),(bk .i64 gv.H (bB .i64 2 y3))⟩:Box).Y,(⟨(bH .i64 y3),(bH .i64 y3),(bk .i64 gv.W (bB .i64 2 y3)),(bk .i64 gv.H (bB .i64 2 y3))⟩:Box).W,(⟨(bH .i64 y3),(bH .i64 y3),(bk .i64 gv.W (bB .i64 2 y3)),(bk .i64 gv.H (bB .i64 2 y3))⟩:Box).H⟩,y5.1⟩:Bo) (⟨n,n1,1,1⟩:Box) false).bind fun y6 =>
   (bif (bW y6.2.2.2.2.2.1) then
    some (.out (.inl ((⟨0,[]⟩:Bm),0,6)))
   else
    (idx y6.2.2.2.2.1 0).bind fun x1 =>
    (bif (bW (isE x1.vars)) then
     (neE x1.vars).bind fun _u =>
     (m_unroll_builder_fix_o y6.2.2.2.2.2.2.1 y6.2.2.2.2.2.2.2.2 y4.1 y4.2.1 y4.2.2.1 y4.2.2.2 y6.2.2.2.2.2.2.2.1 x1.vars x).bind fun y7 =>
     some (.next ((bk .i64 a 1),y6.2.2.2.2.2.2.2.1,y6.2.2.2.2.2.2.1,y7))
    else
     (bif (neB x1.constant x) then
      (m_unroll_builder_clause_o_N y6.2.2.2.2.2.2.1 y6.2.2.2.2.2.2.2.2 y4.1 y4.2.1 y4.2.2.1 y4.2.2.2 y6.2.2.2.2.2.2.2.1).bind fun _y7 =>
      some (.next ((bk .i64 a 1),y6.2.2.2.2.2.2.2.1,y6.2.2.2.2.2.2.1,(y6.2.2.2.2.2.2.2.2++[[]])))
     else
      some (.next ((bk .i64 a 1),y6.2.2.2.2.2.2.2.1,y6.2.2.2.2.2.2.1,y6.2.2.2.2.2.2.2.2)))))
  else
   some (.out (.inr (mp,aa,l))))
def m_unroll_Parents (t:Tree) (gv:Grid):Option (Bm×Int×Int) :=
 (m_tree_Right t).bind fun y =>
 (bif (bW y) then
  some ((⟨0,[]⟩:Bm),0,11)
 else
  (m_grid_Right gv).bind fun y1 =>
  (bif (bW y1) then
   some ((⟨0,[]⟩:Bm),0,2)
  else
   (m_slices_ContainsFunc_int_int_unroll_Parents_1 gv.Cells t).bind fun y2 =>
   (bif y2 then
    some ((⟨0,[]⟩:Bm),0,10)
   else
    (m_hood_Radius t.Hood).bind fun y3 =>
    (bif (gtB (bB .i64 (bk .i64 gv.W (bB .i64 2 y3)) (bk .i64 gv.H (bB .i64 2 y3))) 16) then
     some ((⟨0,[]⟩:Bm),0,6)
    else
     (m_unroll_start t).bind fun y4 =>
     (m_unroll_builder_free_o 0 [] y4.1 y4.2.1 y4.2.2.1 y4.2.2.2 [] (⟨(bH .i64 y3),(bH .i64 y3),(bk .i64 gv.W (bB .i64 2 y3)),(bk .i64 gv.H (bB .i64 2 y3))⟩:Box)).bind fun y5 =>
     (bh (b_unroll_Parents_1 gv y3 y4 y5) bm (0,[],y5.2.2,y5.2.1)).bind fun o=>match o with
      | .inl r =>
       some r
      | .inr (mp,aa,l) =>
       (m_unroll_builder_large_o aa l y4.1 y4.2.1 y4.2.2.1 y4.2.2.2 mp).bind fun y6 =>
       (bif y6 then
        some ((⟨0,[]⟩:Bm),0,6)
       else
        some ((⟨aa,l⟩:Bm),y5.2.2,0))))))
def m_unroll_Bits_1 (cv:Cell) (a:Bl):Option (Bool) :=
 ((bif (ltB cv.X 0) then
  some true
 else
  (bif (geB cv.X a.W) then
   some true
  else
   (bif (ltB cv.Y 0) then
    some true
   else
    some (geB cv.Y a.H))))).bind fun a1 =>
 some a1
def b_slices_IndexFunc_api_Pattern_api_Cell_unroll_Bits_1_1 (s:List Cell) (cv:Bl) (stt:Int):Option (Lp (Int) (Int ⊕ Unit)):=match stt with
 | a =>
  (bif (ltB a (bf s)) then
   (idx s a).bind fun x =>
   (m_unroll_Bits_1 x cv).bind fun y =>
   (bif y then
    some (.out (.inl a))
   else
    some (.next (bk .i64 a 1)))
  else
   some (.out (.inr ())))
def m_slices_IndexFunc_api_Pattern_api_Cell_unroll_Bits_1 (s:List Cell) (cv:Bl):Option (Int) :=
 (bh (b_slices_IndexFunc_api_Pattern_api_Cell_unroll_Bits_1_1 s cv) bm 0).bind fun o=>match o with
  | .inl r =>
   some r
  | .inr _u =>
   some (-1)
def m_slices_ContainsFunc_api_Pattern_api_Cell_unroll_Bits_1 (s:List Cell) (cv:Bl):Option (Bool) :=
 (m_slices_IndexFunc_api_Pattern_api_Cell_unroll_Bits_1 s cv).bind fun y =>
 some (geB y 0)
def b_unroll_Bits_2 (x:Bl) (_p:List Cell) (y2 _a1:Int) (_out:List Bool) (x1:Cell) (stt:Int×(List Bool)):Option (Lp (Int×(List Bool)) ((List Bool))):=match stt with
 | (a2,aN) =>
  (bif (ltB a2 y2) then
   (ishr .i64 x1.S a2).bind fun n =>
   (idx aN (bk .i64 (bB .i64 (bk .i64 (bB .i64 x1.Y x.W) x1.X) y2) a2)).bind fun _x2 =>
   some (.next ((bk .i64 a2 1),(aN.set (bk .i64 (bB .i64 (bk .i64 (bB .i64 x1.Y x.W) x1.X) y2) a2).toNat (eqB (iand .i64 n 1) 1))))
  else
   some (.out aN))
def b_unroll_Bits_1 (x:Bl) (p:List Cell) (y2:Int) (stt:Int×(List Bool)):Option (Lp (Int×(List Bool)) ((List Bool))):=match stt with
 | (a1,out) =>
  (bif (ltB a1 (bf p)) then
   (idx p a1).bind fun x1 =>
   (bh (b_unroll_Bits_2 x p y2 a1 out x1) bm (0,out)).bind fun aN =>
   some (.next ((bk .i64 a1 1),aN))
  else
   some (.out out))
def m_unroll_Bits (t:Tree) (x:Bl) (p:List Cell):Option ((List Bool)×Int) :=
 (m_problem_Check t x).bind fun y =>
 (bif (neB y 0) then
  some ([],y)
 else
  ((m_pattern_Right p).bind fun y1 =>
  (bif (bW y1) then
   some true
  else
   (m_slices_ContainsFunc_api_Pattern_api_Cell_unroll_Bits_1 p x).bind fun y2 =>
   some y2)).bind fun a =>
  (bif a then
   some ([],2)
  else
   (m_pattern_Top p).bind fun y1 =>
   (bif (geB y1 t.States) then
    some ([],10)
   else
    (m_lower_Bits t.States).bind fun y2 =>
    (mkL 1 (bB .i64 (bB .i64 x.W x.H) y2) (bB .i64 (bB .i64 x.W x.H) y2) false).bind fun _l =>
    (bh (b_unroll_Bits_1 x p y2) bm (0,(List.replicate (bB .i64 (bB .i64 x.W x.H) y2).toNat false))).bind fun out =>
    some (out,0))))
def b_lower_State_1 (l:List Bool) (stt:Int×Int):Option (Lp (Int×Int) (Int)):=match stt with
 | (n,a) =>
  (bif (ltB a (bf l)) then
   ((idx l a).bind fun x =>
   (bif x then
    (ishl .i64 1 a).bind fun n1 =>
    some (ior .i64 n n1)
   else
    some n)).bind fun n1 =>
   some (.next (n1,(bk .i64 a 1)))
  else
   some (.out n))
def m_lower_State (l:List Bool):Option (Int) :=
 (bif (gtB (bf l) 8) then
  some 0
 else
  (bh (b_lower_State_1 l) bm (0,0)).bind fun n =>
  some n)
def b_unroll_Pattern_1 (t:Tree) (x:Bl) (l:List Bool) (y1:Int) (stt:Int×(List Cell)):Option (Lp (Int×(List Cell)) (((List Cell)×Int) ⊕ (List Cell))):=match stt with
 | (a,out) =>
  (bif (ltB a (bB .i64 x.W x.H)) then
   (slcL l (bB .i64 a y1) (bB .i64 (bk .i64 a 1) y1)).bind fun l1 =>
   (m_lower_State l1).bind fun y2 =>
   (bif (geB y2 t.States) then
    some (.out (.inl ([],10)))
   else
    (bif (gtB y2 0) then
     (i7 a x.W).bind fun n =>
     (iquo .i64 a x.W).bind fun n1 =>
     (bQ 24 out [(⟨n,n1,y2⟩:Cell)]).bind fun _l2 =>
     some (.next ((bk .i64 a 1),(out++[(⟨n,n1,y2⟩:Cell)])))
    else
     some (.next ((bk .i64 a 1),out))))
  else
   some (.out (.inr out)))
def m_unroll_Pattern (t:Tree) (x:Bl) (l:List Bool):Option ((List Cell)×Int) :=
 (m_problem_Check t x).bind fun y =>
 (bif (neB y 0) then
  some ([],y)
 else
  (m_lower_Bits t.States).bind fun y1 =>
  (bif (neB (bf l) (bB .i64 (bB .i64 x.W x.H) y1)) then
   some ([],2)
  else
   (bh (b_unroll_Pattern_1 t x l y1) bm (0,[])).bind fun o=>match o with
    | .inl r =>
     some r
    | .inr out =>
     some (out,0)))
def b_R41_Equal_2 (_a _b:Bm) (_i:Int) (x x1:List Int) (stt:Int):Option (Lp (Int) (Bool ⊕ Unit)):=match stt with
 | k =>
  (bif (ltB k (bf x)) then
   (idx x k).bind fun x2 =>
   (idx x1 k).bind fun x3 =>
   (bif (neB x2 x3) then
    some (.out (.inl false))
   else
    some (.next (bk .i64 k 1)))
  else
   some (.out (.inr ())))
def b_R41_Equal_1 (a b:Bm) (stt:Int):Option (Lp (Int) (Bool ⊕ Unit)):=match stt with
 | i =>
  (bif (ltB i (bf a.Clauses)) then
   (idx a.Clauses i).bind fun x =>
   (idx b.Clauses i).bind fun x1 =>
   (bif (neB (bf x) (bf x1)) then
    some (.out (.inl false))
   else
    (bh (b_R41_Equal_2 a b i x x1) bm 0).bind fun o=>match o with
     | .inl r =>
      some (.out (.inl r))
     | .inr _u =>
      some (.next (bk .i64 i 1)))
  else
   some (.out (.inr ())))
def m_R41_Equal (a b:Bm):Option (Bool) :=
 ((bif (neB a.Vars b.Vars) then
  some true
 else
  some (neB (bf a.Clauses) (bf b.Clauses)))).bind fun a1 =>
 (bif a1 then
  some false
 else
  (bh (b_R41_Equal_1 a b) bm 0).bind fun o=>match o with
   | .inl r =>
    some r
   | .inr _u =>
    some true)
def m_R05_order (a b:Int):Option (Int) :=
 (bif (ltB a b) then
  some (-1)
 else
  (bif (gtB a b) then
   some 1
  else
   some 0))
def b_R05_Compare_1 (a b:List Cell) (stt:Int):Option (Lp (Int) (Int ⊕ Unit)):=match stt with
 | i =>
  ((bif (ltB i (bf a)) then
   some (ltB i (bf b))
  else
   some false)).bind fun a1 =>
  (bif a1 then
   (idx a i).bind fun x =>
   (idx b i).bind fun x1 =>
   (bif (neB x.Y x1.Y) then
    (m_R05_order x.Y x1.Y).bind fun y =>
    some (.out (.inl y))
   else
    (bif (neB x.X x1.X) then
     (m_R05_order x.X x1.X).bind fun y =>
     some (.out (.inl y))
    else
     (bif (neB x.S x1.S) then
      (m_R05_order x.S x1.S).bind fun y =>
      some (.out (.inl y))
     else
      some (.next (bk .i64 i 1)))))
  else
   some (.out (.inr ())))
def m_R05_Compare (a b:List Cell):Option (Int) :=
 (bh (b_R05_Compare_1 a b) bm 0).bind fun o=>match o with
  | .inl r =>
   some r
  | .inr _u =>
   (m_R05_order (bf a) (bf b)).bind fun y =>
   some y
def m_R05_Same (a b:List Cell):Option (Bool) :=
 (m_R05_Compare a b).bind fun y =>
 some (eqB y 0)
def m_L45_alive:Option (Bool) :=
 (m_L45_keep).bind fun y =>
 (m_unroll_Formula y (⟨1,1,1,0,0,[]⟩:Bl)).bind fun y1 =>
 (m_unroll_Parents y (⟨1,1,0,[1]⟩:Grid)).bind fun y2 =>
 (m_unroll_Bits y (⟨1,1,1,0,0,[]⟩:Bl) [(⟨0,0,1⟩:Cell)]).bind fun y3 =>
 (m_unroll_Pattern y (⟨1,1,1,0,0,[]⟩:Bl) [true]).bind fun y4 =>
 (m_unroll_Formula (⟨0,[],[]⟩:Tree) (⟨1,1,1,0,0,[]⟩:Bl)).bind fun y5 =>
 ((bif (eqB y1.2.2 0) then
  (bif (eqB y1.2.1 1) then
   (m_R41_Equal y1.1 (⟨2,[[1,(-2)],[(-1),2],[(-2),1],[2,(-1)]]⟩:Bm)).bind fun y6 =>
   (bif y6 then
    (bif (eqB y2.2.2 0) then
     (bif (eqB y2.2.1 1) then
      (m_R41_Equal y2.1 (⟨2,[[1,(-2)],[(-1),2],[2]]⟩:Bm)).bind fun y7 =>
      (bif y7 then
       (bif (eqB y3.2 0) then
        (bif (eqB (bf y3.1) 1) then
         (idx y3.1 0).bind fun x =>
         (bif x then
          (bif (eqB y4.2 0) then
           (m_R05_Same y4.1 [(⟨0,0,1⟩:Cell)]).bind fun y8 =>
           (bif y8 then
            some (eqB y5.2.2 11)
           else
            some false)
          else
           some false)
         else
          some false)
        else
         some false)
       else
        some false)
      else
       some false)
     else
      some false)
    else
     some false)
   else
    some false)
  else
   some false)
 else
  some false)).bind fun a =>
 some a
def m_R07_before (a b:Point):Option (Bool) :=
 ((bif (ltB a.Y b.Y) then
  some true
 else
  (bif (eqB a.Y b.Y) then
   some (ltB a.X b.X)
  else
   some false))).bind fun a1 =>
 some a1
def b_R07_Right_1 (l:List Point) (stt:Int):Option (Lp (Int) (Bool ⊕ Unit)):=match stt with
 | i =>
  (bif (ltB i (bf l)) then
   (idx l i).bind fun x =>
   ((bif (ltB x.X (-2)) then
    some true
   else
    (bif (gtB x.X 2) then
     some true
    else
     (bif (ltB x.Y (-2)) then
      some true
     else
      (bif (gtB x.Y 2) then
       some true
      else
       (bif (gtB i 0) then
        (idx l (br .i64 i 1)).bind fun x1 =>
        (m_R07_before x1 x).bind fun y =>
        some (bW y)
       else
        some false)))))).bind fun a1 =>
   (bif a1 then
    some (.out (.inl false))
   else
    some (.next (bk .i64 i 1)))
  else
   some (.out (.inr ())))
def m_R07_Right (l:List Point):Option (Bool) :=
 ((bif (ltB (bf l) 1) then
  some true
 else
  some (gtB (bf l) 25))).bind fun a =>
 (bif a then
  some false
 else
  (bh (b_R07_Right_1 l) bm 0).bind fun o=>match o with
   | .inl r =>
    some r
   | .inr _u =>
    some true)
def b_R12_Right_2 (t:Tree) (i:Int) (x:Node) (stt:Int):Option (Lp (Int) (Bool ⊕ Unit)):=match stt with
 | s =>
  (bif (ltB s t.States) then
   (idx x.Next s).bind fun x1 =>
   (bif (ltB x1 0) then
    some (.out (.inl false))
   else
    ((bif (eqB x.Level 1) then
     some (geB x1 t.States)
    else
     some false)).bind fun a2 =>
    (bif a2 then
     some (.out (.inl false))
    else
     ((bif (gtB x.Level 1) then
      (bif (geB x1 i) then
       some true
      else
       (idx t.Nodes x1).bind fun x2 =>
       some (neB x2.Level (br .i64 x.Level 1)))
     else
      some false)).bind fun a3 =>
     (bif a3 then
      some (.out (.inl false))
     else
      some (.next (bk .i64 s 1)))))
  else
   some (.out (.inr ())))
def b_R12_Right_1 (t:Tree) (stt:Int):Option (Lp (Int) (Bool ⊕ Unit)):=match stt with
 | i =>
  (bif (ltB i (bf t.Nodes)) then
   (idx t.Nodes i).bind fun x =>
   ((bif (ltB x.Level 1) then
    some true
   else
    (bif (gtB x.Level (bf t.Hood)) then
     some true
    else
     some (neB (bf x.Next) t.States)))).bind fun a1 =>
   (bif a1 then
    some (.out (.inl false))
   else
    (bh (b_R12_Right_2 t i x) bm 0).bind fun o=>match o with
     | .inl r =>
      some (.out (.inl r))
     | .inr _u =>
      some (.next (bk .i64 i 1)))
  else
   some (.out (.inr ())))
def m_R12_Right (t:Tree):Option (Bool) :=
 ((bif (ltB t.States 2) then
  some true
 else
  (bif (gtB t.States 8) then
   some true
  else
   (m_R07_Right t.Hood).bind fun y =>
   (bif (bW y) then
    some true
   else
    (bif (ltB (bf t.Nodes) 1) then
     some true
    else
     some (gtB (bf t.Nodes) 4096)))))).bind fun a =>
 (bif a then
  some false
 else
  (bh (b_R12_Right_1 t) bm 0).bind fun o=>match o with
   | .inl r =>
    some r
   | .inr _u =>
    (idx t.Nodes (br .i64 (bf t.Nodes) 1)).bind fun x =>
    some (eqB x.Level (bf t.Hood)))
def b_R12_Value_1 (t:Tree) (in_:List Int) (stt:Int×Int):Option (Lp (Int×Int) (Int)):=match stt with
 | (k,i) =>
  (bif (ltB i (bf in_)) then
   (idx t.Nodes k).bind fun x =>
   (idx in_ i).bind fun x1 =>
   (idx x.Next x1).bind fun x2 =>
   some (.next (x2,(bk .i64 i 1)))
  else
   some (.out k))
def m_R12_Value (t:Tree) (in_:List Int):Option (Int) :=
 (bh (b_R12_Value_1 t in_) bm ((br .i64 (bf t.Nodes) 1),0)).bind fun k =>
 some k
def b_R12_Eval_1 (t:Tree) (in_:List Int) (stt:Int):Option (Lp (Int) ((Int×Int) ⊕ Unit)):=match stt with
 | i =>
  (bif (ltB i (bf in_)) then
   ((idx in_ i).bind fun x =>
   (bif (ltB x 0) then
    some true
   else
    some (geB x t.States))).bind fun a =>
   (bif a then
    some (.out (.inl (0,10)))
   else
    some (.next (bk .i64 i 1)))
  else
   some (.out (.inr ())))
def m_R12_Eval (t:Tree) (in_:List Int):Option (Int×Int) :=
 (m_R12_Right t).bind fun y =>
 (bif (bW y) then
  some (0,11)
 else
  (bif (neB (bf in_) (bf t.Hood)) then
   some (0,2)
  else
   (bh (b_R12_Eval_1 t in_) bm 0).bind fun o=>match o with
    | .inl r =>
     some r
    | .inr _u =>
     (m_R12_Value t in_).bind fun y1 =>
     some (y1,0)))
def m_R12_Quiet (t:Tree):Option (Bool) :=
 (m_R12_Right t).bind fun y =>
 (bif (bW y) then
  some false
 else
  (mkL 8 (bf t.Hood) (bf t.Hood) 0).bind fun _l =>
  (m_R12_Eval t (List.replicate (bf t.Hood).toNat 0)).bind fun y1 =>
  some (eqB y1.1 0))
def b_R44_Box_2 (x:Bl) (i x1 stt:Int):Option (Lp (Int) (Int ⊕ Unit)):=match stt with
 | k =>
  (bif (ltB k i) then
   (idx x.Syms k).bind fun x2 =>
   (bif (eqB x2 x1) then
    some (.out (.inl 2))
   else
    some (.next (bk .i64 k 1)))
  else
   some (.out (.inr ())))
def b_R44_Box_1 (x:Bl) (stt:Int):Option (Lp (Int) (Int ⊕ Unit)):=match stt with
 | i =>
  (bif (ltB i (bf x.Syms)) then
   (idx x.Syms i).bind fun x1 =>
   ((bif (ltB x1 0) then
    some true
   else
    (bif (gtB x1 7) then
     some true
    else
     (i7 x1 2).bind fun n =>
     (bif (eqB n 1) then
      some (neB x.W x.H)
     else
      some false)))).bind fun a3 =>
   (bif a3 then
    some (.out (.inl 2))
   else
    (bh (b_R44_Box_2 x i x1) bm 0).bind fun o=>match o with
     | .inl r =>
      some (.out (.inl r))
     | .inr _u =>
      some (.next (bk .i64 i 1)))
  else
   some (.out (.inr ())))
def m_R44_Box (x:Bl):Option (Int) :=
 ((bif (ltB x.W 1) then
  some true
 else
  some (ltB x.H 1))).bind fun a =>
 (bif a then
  some 2
 else
  ((bif (gtB x.W 16) then
   some true
  else
   (bif (gtB x.H 16) then
    some true
   else
    some (gtB (bB .i64 x.W x.H) 16)))).bind fun a1 =>
  (bif a1 then
   some 6
  else
   ((bif (ltB x.Gens 1) then
    some true
   else
    (bif (gtB x.Gens 6) then
     some true
    else
     (bif (ltB x.DX (-24)) then
      some true
     else
      (bif (gtB x.DX 24) then
       some true
      else
       (bif (ltB x.DY (-24)) then
        some true
       else
        some (gtB x.DY 24))))))).bind fun a2 =>
   (bif a2 then
    some 2
   else
    (bh (b_R44_Box_1 x) bm 0).bind fun o=>match o with
     | .inl r =>
      some r
     | .inr _u =>
      some 0)))
def m_R44_Check (t:Tree) (x:Bl):Option (Int) :=
 (m_R12_Quiet t).bind fun y =>
 (bif (bW y) then
  some 11
 else
  (m_R44_Box x).bind fun y1 =>
  some y1)
def m_R18_Bits (states:Int):Option (Int) :=
 (bif (eqB states 2) then
  some 1
 else
  ((bif (eqB states 3) then
   some true
  else
   some (eqB states 4))).bind fun a =>
  (bif a then
   some 2
  else
   ((bif (geB states 5) then
    some (leB states 8)
   else
    some false)).bind fun a1 =>
   (bif a1 then
    some 3
   else
    some 0)))
def m_R45_bit (n k:Int):Option (Int) :=
 (ishr .i64 n (gt .u64 k)).bind fun n1 =>
 some (iand .i64 n1 1)
def b_R45_against_1 (p:List Int) (cv:Int) (stt:Int×(List Int)):Option (Lp (Int×(List Int)) ((List Int))):=match stt with
 | (jv,out) =>
  (bif (ltB jv (bf p)) then
   ((m_R45_bit cv jv).bind fun y =>
   (bif (eqB y 1) then
    (idx p jv).bind fun x =>
    (bQ 8 out [(bH .i64 x)]).bind fun _l =>
    some (out++[(bH .i64 x)])
   else
    (idx p jv).bind fun x =>
    (bQ 8 out [x]).bind fun _l =>
    some (out++[x]))).bind fun aN =>
   some (.next ((bk .i64 jv 1),aN))
  else
   some (.out out))
def m_R45_against (p:List Int) (cv:Int):Option (List Int) :=
 (bh (b_R45_against_1 p cv) bm (0,[])).bind fun out =>
 some out
def m_R45_clause_o_N (_al:Int) (az:List (List Int)) (l:List Int):Option (Unit) :=
 (bQ 8 [] l).bind fun _l1 =>
 (bQ 8 ([]++l) []).bind fun _l2 =>
 (bQ 24 az [(([]++l)++[])]).bind fun _l3 =>
 some ()
def b_R45_cells_2 (_n _states y i:Int) (_l:List (List Int)) (_out:List Bp) (stt:Int×(List Int)):Option (Lp (Int×(List Int)) ((List Int))):=match stt with
 | (k,l1) =>
  (bif (leB k y) then
   (bQ 8 l1 [(bk .i64 (bB .i64 i y) k)]).bind fun _l2 =>
   some (.next ((bk .i64 k 1),(l1++[(bk .i64 (bB .i64 i y) k)])))
  else
   some (.out l1))
def b_R45_cells_3 (n _states y _i:Int) (_out:List Bp) (l1:List Int) (stt:Int×(List (List Int))):Option (Lp (Int×(List (List Int))) ((List (List Int)))):=match stt with
 | (cv,l2) =>
  (ishl .i64 1 (gt .u64 y)).bind fun n1 =>
  (bif (ltB cv n1) then
   (m_R45_against l1 cv).bind fun y1 =>
   (m_R45_clause_o_N (bB .i64 n y) l2 y1).bind fun _y2 =>
   some (.next ((bk .i64 cv 1),(l2++[(([]++y1)++[])])))
  else
   some (.out l2))
def b_R45_cells_1 (n states y:Int) (stt:Int×(List (List Int))×(List Bp)):Option (Lp (Int×(List (List Int))×(List Bp)) (((List (List Int))×(List Bp)))):=match stt with
 | (i,l,out) =>
  (bif (ltB i n) then
   (bh (b_R45_cells_2 n states y i l out) bm (1,[])).bind fun l1 =>
   (bh (b_R45_cells_3 n states y i out l1) bm (states,l)).bind fun l2 =>
   (bQ 32 out [(⟨0,l1⟩:Bp)]).bind fun _l3 =>
   some (.next ((bk .i64 i 1),l2,(out++[(⟨0,l1⟩:Bp)])))
  else
   some (.out (l,out)))
def m_R45_cells (n states:Int):Option (Int×(List Bp)×(List (List Int))) :=
 (m_R18_Bits states).bind fun y =>
 (bh (b_R45_cells_1 n states y) bm (0,[],[])).bind fun(l,out) =>
 some ((bB .i64 n y),out,l)
def m_R03_Valid (p:Point):Option (Bool) :=
 ((bif (geB p.X (-1048576)) then
  (bif (leB p.X 1048576) then
   (bif (geB p.Y (-1048576)) then
    some (leB p.Y 1048576)
   else
    some false)
  else
   some false)
 else
  some false)).bind fun a =>
 some a
def m_R03_Right (b:Box):Option (Bool) :=
 ((bif (ltB b.W 1) then
  some true
 else
  (bif (ltB b.H 1) then
   some true
  else
   (bif (gtB b.W 2097153) then
    some true
   else
    (bif (gtB b.H 2097153) then
     some true
    else
     (m_R03_Valid (⟨b.X,b.Y⟩:Point)).bind fun y =>
     some (bW y)))))).bind fun a =>
 (bif a then
  some false
 else
  (m_R03_Valid (⟨(br .i64 (bk .i64 b.X b.W) 1),(br .i64 (bk .i64 b.Y b.H) 1)⟩:Point)).bind fun y =>
  some y)
def m_R04_Place (p:Point):Option (Bool) :=
 ((bif (geB p.X (-1048576)) then
  (bif (leB p.X 1048576) then
   (bif (geB p.Y (-1048576)) then
    some (leB p.Y 1048576)
   else
    some false)
  else
   some false)
 else
  some false)).bind fun a =>
 some a
def m_R04_Mod (k:Int):Option (Int) :=
 (i7 k 8).bind fun n =>
 (i7 (bk .i64 n 8) 8).bind fun n1 =>
 some n1
def b_R04_Apply_1 (k1:Int) (stt:Int×Int×Int):Option (Lp (Int×Int×Int) ((Int×Int))):=match stt with
 | (i,pX1,pY) =>
  (bif (ltB i k1) then
   some (.next ((bk .i64 i 1),(bH .i64 pY),pX1))
  else
   some (.out (pX1,pY)))
def m_R04_Apply (k:Int) (p:Point):Option (Point) :=
 (m_R04_Mod k).bind fun y =>
 ((bif (geB y 4) then
  some ((br .i64 y 4),(bH .i64 p.X))
 else
  some (y,p.X))).bind fun(k1,pX) =>
 (bh (b_R04_Apply_1 k1) bm (0,pX,p.Y)).bind fun(pX1,pY) =>
 some (⟨pX1,pY⟩:Point)
def m_R04_Turn (k:Int) (b:Box):Option (Box) :=
 (m_R03_Right b).bind fun y =>
 (bif (bW y) then
  some (⟨0,0,0,0⟩:Box)
 else
  (m_R04_Apply k (⟨b.X,b.Y⟩:Point)).bind fun y1 =>
  (m_R04_Apply k (⟨(br .i64 (bk .i64 b.X b.W) 1),(br .i64 (bk .i64 b.Y b.H) 1)⟩:Point)).bind fun y2 =>
  some (⟨(ii y1.X y2.X),(ii y1.Y y2.Y),(bk .i64 (br .i64 (d7 y1.X y2.X) (ii y1.X y2.X)) 1),(bk .i64 (br .i64 (d7 y1.Y y2.Y) (ii y1.Y y2.Y)) 1)⟩:Box))
def m_R04_Within (k:Int) (b:Box) (p:Point):Option (Point) :=
 ((m_R03_Right b).bind fun y =>
 (bif (bW y) then
  some true
 else
  (m_R04_Place p).bind fun y1 =>
  some (bW y1))).bind fun a =>
 (bif a then
  some (⟨0,0⟩:Point)
 else
  (m_R04_Turn k b).bind fun y =>
  (m_R04_Apply k p).bind fun y1 =>
  some (⟨(br .i64 y1.X y.X),(br .i64 y1.Y y.Y)⟩:Point))
def b_R45_same_o_1 (al:Int) (a b:List Int) (stt:Int×(List (List Int))):Option (Lp (Int×(List (List Int))) ((List (List Int)))):=match stt with
 | (k,l) =>
  (bif (ltB k (bf a)) then
   (idx a k).bind fun x =>
   (idx b k).bind fun x1 =>
   (m_R45_clause_o_N al l [(bH .i64 x),x1]).bind fun _y =>
   (m_R45_clause_o_N al (l++[(([]++[(bH .i64 x),x1])++[])]) [x,(bH .i64 x1)]).bind fun _y1 =>
   some (.next ((bk .i64 k 1),((l++[(([]++[(bH .i64 x),x1])++[])])++[(([]++[x,(bH .i64 x1)])++[])])))
  else
   some (.out l))
def m_R45_same_o (al:Int) (az:List (List Int)) (a b:List Int):Option (List (List Int)) :=
 (bh (b_R45_same_o_1 al a b) bm (0,az)).bind fun l =>
 some l
def m_R45_fits (f:Bm):Option (Bool) :=
 ((bif (leB f.Vars 65536) then
  some (leB (bf f.Clauses) 262144)
 else
  some false)).bind fun a =>
 some a
def m_R07_Abs (n:Int):Option (Int) :=
 some (d7 n (bH .i64 n))
def b_R07_Radius_1 (l:List Point) (stt:Int×Int):Option (Lp (Int×Int) (Int)):=match stt with
 | (n,i) =>
  (bif (ltB i (bf l)) then
   (idx l i).bind fun x =>
   (m_R07_Abs x.X).bind fun y1 =>
   (m_R07_Abs x.Y).bind fun y2 =>
   some (.next ((d7 (d7 n y1) y2),(bk .i64 i 1)))
  else
   some (.out n))
def m_R07_Radius (l:List Point):Option (Int) :=
 (m_R07_Right l).bind fun y =>
 (bif (bW y) then
  some 0
 else
  (bh (b_R07_Radius_1 l) bm (0,0)).bind fun n =>
  some n)
def b_R13_same_1 (a b:List Int) (stt:Int):Option (Lp (Int) (Bool ⊕ Unit)):=match stt with
 | i =>
  (bif (ltB i (bf a)) then
   (idx a i).bind fun x =>
   (idx b i).bind fun x1 =>
   (bif (neB x x1) then
    some (.out (.inl false))
   else
    some (.next (bk .i64 i 1)))
  else
   some (.out (.inr ())))
def m_R13_same (a b:List Int):Option (Bool) :=
 (bif (neB (bf a) (bf b)) then
  some false
 else
  (bh (b_R13_same_1 a b) bm 0).bind fun o=>match o with
   | .inl r =>
    some r
   | .inr _u =>
    some true)
def b_R13_classes_2 (l:List Node) (i:Int) (am:List Int) (_nexts:List (List Int)) (stt:Int×(List Int)):Option (Lp (Int×(List Int)) ((List Int))):=match stt with
 | (s,next) =>
  (idx l i).bind fun x =>
  (bif (ltB s (bf x.Next)) then
   (idx x.Next s).bind fun x1 =>
   ((bif (gtB x.Level 1) then
    (idx am x1).bind fun x2 =>
    some x2
   else
    some x1)).bind fun k =>
   (bQ 8 next [k]).bind fun _l1 =>
   some (.next ((bk .i64 s 1),(next++[k])))
  else
   some (.out next))
def b_R13_classes_3 (l:List Node) (i:Int) (_am:List Int) (nexts:List (List Int)) (next:List Int) (stt:Int×Int):Option (Lp (Int×Int) (Int)):=match stt with
 | (first,jv) =>
  (bif (geB jv 0) then
   (((idx l jv).bind fun x =>
   (idx l i).bind fun x1 =>
   (bif (eqB x.Level x1.Level) then
    (idx nexts jv).bind fun x2 =>
    (m_R13_same x2 next).bind fun y =>
    some y
   else
    some false)).bind fun a =>
   (bif a then
    some jv
   else
    some first)).bind fun first1 =>
   some (.next (first1,(br .i64 jv 1)))
  else
   some (.out first))
def b_R13_classes_1 (l:List Node) (stt:Int×(List Int)×(List (List Int))):Option (Lp (Int×(List Int)×(List (List Int))) ((List Int))):=match stt with
 | (i,am,nexts) =>
  (bif (ltB i (bf l)) then
   (bh (b_R13_classes_2 l i am nexts) bm (0,[])).bind fun next =>
   (bh (b_R13_classes_3 l i am nexts next) bm (i,(br .i64 i 1))).bind fun first =>
   (bQ 8 am [first]).bind fun _l1 =>
   (bQ 24 nexts [next]).bind fun _l2 =>
   some (.next ((bk .i64 i 1),(am++[first]),(nexts++[next])))
  else
   some (.out am))
def m_R13_classes (l:List Node):Option (List Int) :=
 (bh (b_R13_classes_1 l) bm (0,[],[])).bind fun am =>
 some am
def b_R13_walk_o_o_1 (rcv:((List Node)->(List Int)->Int->(List Int)->(List Node)->Option ((List Int)×(List Node)))) (l:List Node) (am:List Int) (i:Int) (_out:List Node) (x1:Node) (stt:Int×(List Int)×(List Node)×(List Int)):Option (Lp (Int×(List Int)×(List Node)×(List Int)) (((List Int)×(List Node)×(List Int)))):=match stt with
 | (s,l1,aN,aH) =>
  (idx l i).bind fun x2 =>
  (bif (ltB s (bf x2.Next)) then
   (idx x2.Next s).bind fun x3 =>
   ((bif (gtB x1.Level 1) then
    (idx am x3).bind fun x4 =>
    (rcv l am x4 aH aN).bind fun y =>
    (idx y.1 x4).bind fun x5 =>
    some (x5,y.2,y.1)
   else
    some (x3,aN,aH))).bind fun(k,out2,b0) =>
   (bQ 8 l1 [k]).bind fun _l2 =>
   some (.next ((bk .i64 s 1),(l1++[k]),out2,b0))
  else
   some (.out (l1,aN,aH)))
def mb_R13_walk_o_o (rcv:((List Node)->(List Int)->Int->(List Int)->(List Node)->Option ((List Int)×(List Node)))) (l:List Node) (am:List Int) (i:Int) (done:List Int) (out:List Node):Option ((List Int)×(List Node)) :=
 (idx done i).bind fun x =>
 (bif (geB x 0) then
  some (done,out)
 else
  (idx l i).bind fun x1 =>
  (bh (b_R13_walk_o_o_1 rcv l am i out x1) bm (0,[],out,done)).bind fun(l1,aN,aH) =>
  (idx aH i).bind fun _x2 =>
  (bQ 32 aN [(⟨x1.Level,l1⟩:Node)]).bind fun _l2 =>
  some ((aH.set i.toNat (bf aN)),(aN++[(⟨x1.Level,l1⟩:Node)])))
def m_R13_walk_o_o (l:List Node) (am:List Int) (i:Int) (done:List Int) (out:List Node):Option ((List Int)×(List Node)):=recN mb_R13_walk_o_o (fun _ _ _ _ _=>none) recF l am i done out
def b_R13_walk_o_N_1 (l:List Node) (am:List Int) (i:Int) (x1:Node) (stt:Int×(List Int)×(List Node)×(List Int)):Option (Lp (Int×(List Int)×(List Node)×(List Int)) (((List Int)×(List Node)×(List Int)))):=match stt with
 | (s,l1,out,aH) =>
  (idx l i).bind fun x2 =>
  (bif (ltB s (bf x2.Next)) then
   (idx x2.Next s).bind fun x3 =>
   ((bif (gtB x1.Level 1) then
    (idx am x3).bind fun x4 =>
    (m_R13_walk_o_o l am x4 aH out).bind fun y =>
    (idx y.1 x4).bind fun x5 =>
    some (x5,y.2,y.1)
   else
    some (x3,out,aH))).bind fun(k,aN,b0) =>
   (bQ 8 l1 [k]).bind fun _l2 =>
   some (.next ((bk .i64 s 1),(l1++[k]),aN,b0))
  else
   some (.out (l1,out,aH)))
def mb_R13_walk_o_N (_rcv:((List Node)->(List Int)->Int->(List Int)->Option ((List Int)×(List Node)))) (l:List Node) (am:List Int) (i:Int) (done:List Int):Option ((List Int)×(List Node)) :=
 (idx done i).bind fun x =>
 (bif (geB x 0) then
  some (done,[])
 else
  (idx l i).bind fun x1 =>
  (bh (b_R13_walk_o_N_1 l am i x1) bm (0,[],[],done)).bind fun(l1,out,aH) =>
  (idx aH i).bind fun _x2 =>
  (bQ 32 out [(⟨x1.Level,l1⟩:Node)]).bind fun _l2 =>
  some ((aH.set i.toNat (bf out)),(out++[(⟨x1.Level,l1⟩:Node)])))
def m_R13_walk_o_N (l:List Node) (am:List Int) (i:Int) (done:List Int):Option ((List Int)×(List Node)):=recN mb_R13_walk_o_N (fun _ _ _ _=>none) recF l am i done
def b_R13_reduced_1 (l:List Node) (_y:List Int) (stt:Int×(List Int)):Option (Lp (Int×(List Int)) ((List Int))):=match stt with
 | (i,done) =>
  (bif (ltB i (bf l)) then
   (bQ 8 done [(-1)]).bind fun _l1 =>
   some (.next ((bk .i64 i 1),(done++[(-1)])))
  else
   some (.out done))
def m_R13_reduced (l:List Node):Option (List Node) :=
 (m_R13_classes l).bind fun y =>
 (bh (b_R13_reduced_1 l y) bm (0,[])).bind fun done =>
 (idx y (br .i64 (bf l) 1)).bind fun x =>
 (m_R13_walk_o_N l y x done).bind fun y1 =>
 some y1.2
def m_R13_Reduce (t:Tree):Option (Tree) :=
 (m_R12_Right t).bind fun y =>
 (bif (bW y) then
  some (⟨0,[],[]⟩:Tree)
 else
  (m_R13_reduced t.Nodes).bind fun y1 =>
  some (⟨t.States,t.Hood,y1⟩:Tree))
def m_R45_at (gv:Bq) (x y:Int):Option (Bp×Bool) :=
 ((bif (ltB (br .i64 x gv.box.X) 0) then
  some true
 else
  (bif (geB (br .i64 x gv.box.X) gv.box.W) then
   some true
  else
   (bif (ltB (br .i64 y gv.box.Y) 0) then
    some true
   else
    some (geB (br .i64 y gv.box.Y) gv.box.H))))).bind fun a =>
 (bif a then
  some ((⟨0,[]⟩:Bp),false)
 else
  (idx gv.of_ (bk .i64 (bB .i64 (br .i64 y gv.box.Y) gv.box.W) (br .i64 x gv.box.X))).bind fun x1 =>
  some (x1,true))
def b_R13_Fix_2 (t:Tree) (k s i:Int) (_l:List Node) (x:Node) (stt:Int×(List Int)):Option (Lp (Int×(List Int)) ((List Int))):=match stt with
 | (jv,l1) =>
  (bif (ltB jv t.States) then
   ((bif (eqB x.Level (br .i64 (bf t.Hood) k)) then
    (idx t.Nodes i).bind fun x1 =>
    (idx x1.Next s).bind fun x2 =>
    (bQ 8 l1 [x2]).bind fun _l2 =>
    some (l1++[x2])
   else
    (idx t.Nodes i).bind fun x1 =>
    (idx x1.Next jv).bind fun x2 =>
    (bQ 8 l1 [x2]).bind fun _l2 =>
    some (l1++[x2]))).bind fun l2 =>
   some (.next ((bk .i64 jv 1),l2))
  else
   some (.out l1))
def b_R13_Fix_1 (t:Tree) (k s:Int) (stt:Int×(List Node)):Option (Lp (Int×(List Node)) ((List Node))):=match stt with
 | (i,l) =>
  (bif (ltB i (bf t.Nodes)) then
   (idx t.Nodes i).bind fun x =>
   (bh (b_R13_Fix_2 t k s i l x) bm (0,[])).bind fun l1 =>
   (bQ 32 l [(⟨x.Level,l1⟩:Node)]).bind fun _l2 =>
   some (.next ((bk .i64 i 1),(l++[(⟨x.Level,l1⟩:Node)])))
  else
   some (.out l))
def m_R13_Fix (t:Tree) (k s:Int):Option (Tree×Int) :=
 (m_R12_Right t).bind fun y =>
 (bif (bW y) then
  some ((⟨0,[],[]⟩:Tree),11)
 else
  ((bif (ltB k 0) then
   some true
  else
   some (geB k (bf t.Hood)))).bind fun a =>
  (bif a then
   some ((⟨0,[],[]⟩:Tree),2)
  else
   ((bif (ltB s 0) then
    some true
   else
    some (geB s t.States))).bind fun a1 =>
   (bif a1 then
    some ((⟨0,[],[]⟩:Tree),10)
   else
    (bh (b_R13_Fix_1 t k s) bm (0,[])).bind fun l =>
    (m_R13_Reduce (⟨t.States,t.Hood,l⟩:Tree)).bind fun y1 =>
    some (y1,0))))
def b_R45_equal_1 (l:List Int) (stt:Int):Option (Lp (Int) (Bool ⊕ Unit)):=match stt with
 | i =>
  (bif (ltB i (bf l)) then
   (idx l i).bind fun x =>
   (idx l 0).bind fun x1 =>
   (bif (neB x x1) then
    some (.out (.inl false))
   else
    some (.next (bk .i64 i 1)))
  else
   some (.out (.inr ())))
def m_R45_equal (l:List Int):Option (Bool) :=
 (bh (b_R45_equal_1 l) bm 1).bind fun o=>match o with
  | .inl r =>
   some r
  | .inr _u =>
   some true
def m_R45_clause_o (_al:Int) (az:List (List Int)) (l more:List Int):Option (Unit) :=
 (bQ 8 [] l).bind fun _l1 =>
 (bQ 8 ([]++l) more).bind fun _l2 =>
 (bQ 24 az [(([]++l)++more)]).bind fun _l3 =>
 some ()
def b_R45_tree_o_o_2 (t:Tree) (_in_:List Bp) (_y _i _ay:Int) (_l:List (List Int)) (of_:List Bp) (x:Node) (stt:Int×(List Bp)):Option (Lp (Int×(List Bp)) ((List Bp))):=match stt with
 | (s,kids) =>
  (bif (ltB s t.States) then
   ((bif (eqB x.Level 1) then
    (idx x.Next s).bind fun x1 =>
    (bQ 32 kids [(⟨x1,[]⟩:Bp)]).bind fun _l1 =>
    some (kids++[(⟨x1,[]⟩:Bp)])
   else
    (idx x.Next s).bind fun x1 =>
    (idx of_ x1).bind fun x2 =>
    (bQ 32 kids [x2]).bind fun _l1 =>
    some (kids++[x2]))).bind fun kids1 =>
   some (.next ((bk .i64 s 1),kids1))
  else
   some (.out kids))
def b_R45_tree_o_o_3 (_t:Tree) (_in_:List Bp) (y _i:Int) (_l:List (List Int)) (_of_:List Bp) (_x:Node) (_kids:List Bp) (stt:Int×Int×(List Int)):Option (Lp (Int×Int×(List Int)) ((Int×(List Int)))):=match stt with
 | (k,aB,l1) =>
  (bif (ltB k y) then
   (bQ 8 l1 [(bk .i64 aB 1)]).bind fun _l2 =>
   some (.next ((bk .i64 k 1),(bk .i64 aB 1),(l1++[(bk .i64 aB 1)])))
  else
   some (.out (aB,l1)))
def b_R45_tree_o_o_5 (_t:Tree) (_in_:List Bp) (y _i:Int) (_of_:List Bp) (_x:Node) (kids:List Bp) (aB:Int) (l1:List Int) (s:Int) (y2:List Int) (stt:Int×(List (List Int))):Option (Lp (Int×(List (List Int))) ((List (List Int)))):=match stt with
 | (k,l4) =>
  (bif (ltB k y) then
   ((idx kids s).bind fun x2 =>
   (bif (gtB (bf x2.Vars) 0) then
    (idx l1 k).bind fun x3 =>
    (idx x2.Vars k).bind fun x4 =>
    (m_R45_clause_o aB l4 y2 [(bH .i64 x3),x4]).bind fun _y3 =>
    (m_R45_clause_o aB (l4++[(([]++y2)++[(bH .i64 x3),x4])]) y2 [x3,(bH .i64 x4)]).bind fun _y4 =>
    some ((l4++[(([]++y2)++[(bH .i64 x3),x4])])++[(([]++y2)++[x3,(bH .i64 x4)])])
   else
    (m_R45_bit x2.State k).bind fun y3 =>
    (bif (eqB y3 1) then
     (idx l1 k).bind fun x3 =>
     (m_R45_clause_o aB l4 y2 [x3]).bind fun _y4 =>
     some (l4++[(([]++y2)++[x3])])
    else
     (idx l1 k).bind fun x3 =>
     (m_R45_clause_o aB l4 y2 [(bH .i64 x3)]).bind fun _y4 =>
     some (l4++[(([]++y2)++[(bH .i64 x3)])])))).bind fun l5 =>
   some (.next ((bk .i64 k 1),l5))
  else
   some (.out l4))
def b_R45_tree_o_o_4 (t:Tree) (in_:List Bp) (y i:Int) (of_:List Bp) (x:Node) (kids:List Bp) (aB:Int) (l1:List Int) (stt:Int×(List (List Int))):Option (Lp (Int×(List (List Int))) ((List (List Int)))):=match stt with
 | (s,l3) =>
  (bif (ltB s t.States) then
   (idx in_ (br .i64 (bf t.Hood) x.Level)).bind fun x1 =>
   (m_R45_against x1.Vars s).bind fun y2 =>
   (bh (b_R45_tree_o_o_5 t in_ y i of_ x kids aB l1 s y2) bm (0,l3)).bind fun l4 =>
   some (.next ((bk .i64 s 1),l4))
  else
   some (.out l3))
def b_R45_tree_o_o_1 (t:Tree) (in_:List Bp) (y:Int) (stt:Int×Int×(List (List Int))×(List Bp)):Option (Lp (Int×Int×(List (List Int))×(List Bp)) ((Int×(List (List Int))×(List Bp)))):=match stt with
 | (i,ay,l,of_) =>
  ((bif (ltB i (bf t.Nodes)) then
   (m_R45_fits (⟨ay,l⟩:Bm)).bind fun y1 =>
   some y1
  else
   some false)).bind fun a =>
  (bif a then
   (idx t.Nodes i).bind fun x =>
   (bh (b_R45_tree_o_o_2 t in_ y i ay l of_ x) bm (0,[])).bind fun kids =>
   (m_R45_equal x.Next).bind fun y1 =>
   (bif y1 then
    (idx kids 0).bind fun x1 =>
    (bQ 32 of_ [x1]).bind fun _l1 =>
    some (.next ((bk .i64 i 1),ay,l,(of_++[x1])))
   else
    (bh (b_R45_tree_o_o_3 t in_ y i l of_ x kids) bm (0,ay,[])).bind fun(aB,l1) =>
    (bQ 32 of_ [(⟨0,l1⟩:Bp)]).bind fun _l2 =>
    (bh (b_R45_tree_o_o_4 t in_ y i of_ x kids aB l1) bm (0,l)).bind fun l3 =>
    some (.next ((bk .i64 i 1),aB,l3,(of_++[(⟨0,l1⟩:Bp)]))))
  else
   some (.out (ay,l,of_)))
def m_R45_tree_o_o (al:Int) (az:List (List Int)) (t:Tree) (in_:List Bp):Option (Int×Int×(List Int)×(List (List Int))) :=
 (m_R18_Bits t.States).bind fun y =>
 (bh (b_R45_tree_o_o_1 t in_ y) bm (0,al,az,[])).bind fun(ay,l,of_) =>
 (m_R45_fits (⟨ay,l⟩:Bm)).bind fun y1 =>
 (bif (bW y1) then
  some (ay,0,[],l)
 else
  (idx of_ (br .i64 (bf of_) 1)).bind fun x =>
  some (ay,x.State,x.Vars,l))
def b_R45_next_o_2 (t:Tree) (gv:Bq) (y _i _ay:Int) (_l:List (List Int)) (_l1:List Bp) (n n1:Int) (stt:Int×Int×(List Point)×(List Node)×(List Bp)):Option (Lp (Int×Int×(List Point)×(List Node)×(List Bp)) ((Int×(List Point)×(List Node)×(List Bp)))):=match stt with
 | (k,aO,aX,aT,in_) =>
  (bif (ltB k (bf t.Hood)) then
   ((idx t.Hood k).bind fun x =>
   (m_R45_at gv (bk .i64 (bk .i64 (br .i64 gv.box.X y) n) x.X) (bk .i64 (bk .i64 (br .i64 gv.box.Y y) n1) x.Y)).bind fun y2 =>
   (bQ 32 in_ [y2.1]).bind fun _l2 =>
   (bif (eqB (bf y2.1.Vars) 0) then
    (m_R13_Fix (⟨aO,aX,aT⟩:Tree) k y2.1.State).bind fun y3 =>
    some (y3.1.States,y3.1.Hood,y3.1.Nodes,(in_++[y2.1]))
   else
    some (aO,aX,aT,(in_++[y2.1])))).bind fun(aZ,uHood1,uNodes1,in_1) =>
   some (.next ((bk .i64 k 1),aZ,uHood1,uNodes1,in_1))
  else
   some (.out (aO,aX,aT,in_)))
def b_R45_next_o_1 (t:Tree) (gv:Bq) (y:Int) (stt:Int×Int×(List (List Int))×(List Bp)):Option (Lp (Int×Int×(List (List Int))×(List Bp)) ((Int×(List (List Int))×(List Bp)))):=match stt with
 | (i,ay,l,l1) =>
  ((bif (ltB i (bB .i64 (bk .i64 gv.box.W (bB .i64 2 y)) (bk .i64 gv.box.H (bB .i64 2 y)))) then
   (m_R45_fits (⟨ay,l⟩:Bm)).bind fun y1 =>
   some y1
  else
   some false)).bind fun a =>
  (bif a then
   (i7 i (bk .i64 gv.box.W (bB .i64 2 y))).bind fun n =>
   (iquo .i64 i (bk .i64 gv.box.W (bB .i64 2 y))).bind fun n1 =>
   (m_R13_Reduce t).bind fun y1 =>
   (bh (b_R45_next_o_2 t gv y i ay l l1 n n1) bm (0,y1.States,y1.Hood,y1.Nodes,[])).bind fun(aO,aX,aT,in_) =>
   (m_R45_tree_o_o ay l (⟨aO,aX,aT⟩:Tree) in_).bind fun y2 =>
   (bQ 32 l1 [(⟨y2.2.1,y2.2.2.1⟩:Bp)]).bind fun _l2 =>
   some (.next ((bk .i64 i 1),y2.1,y2.2.2.2,(l1++[(⟨y2.2.1,y2.2.2.1⟩:Bp)])))
  else
   some (.out (ay,l,l1)))
def m_R45_next_o (al:Int) (az:List (List Int)) (t:Tree) (gv:Bq):Option (Int×Int×Int×Int×Int×(List Bp)×(List (List Int))) :=
 (m_R07_Radius t.Hood).bind fun y =>
 (bh (b_R45_next_o_1 t gv y) bm (0,al,az,[])).bind fun(ay,l,l1) =>
 some (ay,(br .i64 gv.box.X y),(br .i64 gv.box.Y y),(bk .i64 gv.box.W (bB .i64 2 y)),(bk .i64 gv.box.H (bB .i64 2 y)),l1,l)
def b_R45_fix_o_1 (al:Int) (l:List Int) (n:Int) (stt:Int×(List (List Int))):Option (Lp (Int×(List (List Int))) ((List (List Int)))):=match stt with
 | (k,l1) =>
  (bif (ltB k (bf l)) then
   ((m_R45_bit n k).bind fun y =>
   (bif (eqB y 1) then
    (idx l k).bind fun x =>
    (m_R45_clause_o_N al l1 [x]).bind fun _y1 =>
    some (l1++[(([]++[x])++[])])
   else
    (idx l k).bind fun x =>
    (m_R45_clause_o_N al l1 [(bH .i64 x)]).bind fun _y1 =>
    some (l1++[(([]++[(bH .i64 x)])++[])]))).bind fun l2 =>
   some (.next ((bk .i64 k 1),l2))
  else
   some (.out l1))
def m_R45_fix_o (al:Int) (az:List (List Int)) (l:List Int) (n:Int):Option (List (List Int)) :=
 (bh (b_R45_fix_o_1 al l n) bm (0,az)).bind fun l1 =>
 some l1
def b_R45_ends_o_1 (al:Int) (x:Bl) (first last:Bq) (stt:Int×(List (List Int))):Option (Lp (Int×(List (List Int))) ((List (List Int)))):=match stt with
 | (i,l) =>
  (bif (ltB i (bf last.of_)) then
   ((idx last.of_ i).bind fun x1 =>
   (i7 i last.box.W).bind fun n =>
   (iquo .i64 i last.box.W).bind fun n1 =>
   (m_R45_at first (br .i64 (bk .i64 last.box.X n) x.DX) (br .i64 (bk .i64 last.box.Y n1) x.DY)).bind fun y =>
   ((bif (gtB (bf x1.Vars) 0) then
    some y.2
   else
    some false)).bind fun a =>
   (bif a then
    (m_R45_same_o al l x1.Vars y.1.Vars).bind fun y1 =>
    some y1
   else
    (bif (gtB (bf x1.Vars) 0) then
     (m_R45_fix_o al l x1.Vars 0).bind fun y1 =>
     some y1
    else
     (bif y.2 then
      (m_R45_fix_o al l y.1.Vars 0).bind fun y1 =>
      some y1
     else
      some l)))).bind fun l1 =>
   some (.next ((bk .i64 i 1),l1))
  else
   some (.out l))
def b_R45_ends_o_2 (al:Int) (x:Bl) (first last:Bq) (stt:Int×(List (List Int))):Option (Lp (Int×(List (List Int))) ((List (List Int)))):=match stt with
 | (i,l1) =>
  (bif (ltB i (bf first.of_)) then
   ((i7 i x.W).bind fun n =>
   (iquo .i64 i x.W).bind fun n1 =>
   (m_R45_at last (bk .i64 n x.DX) (bk .i64 n1 x.DY)).bind fun y =>
   (bif (bW y.2) then
    (idx first.of_ i).bind fun x1 =>
    (m_R45_fix_o al l1 x1.Vars 0).bind fun y1 =>
    some y1
   else
    some l1)).bind fun l2 =>
   some (.next ((bk .i64 i 1),l2))
  else
   some (.out l1))
def m_R45_ends_o (al:Int) (az:List (List Int)) (x:Bl) (first last:Bq):Option (List (List Int)) :=
 (bh (b_R45_ends_o_1 al x first last) bm (0,az)).bind fun l =>
 (bh (b_R45_ends_o_2 al x first last) bm (0,l)).bind fun l1 =>
 some l1
def b_R45_Formula_2 (_t:Tree) (x:Bl) (y1:Int×(List Bp)×(List (List Int))) (i:Int) (stt:Int×(List (List Int))):Option (Lp (Int×(List (List Int))) ((List (List Int)))):=match stt with
 | (k,l1) =>
  (bif (ltB k (bf y1.2.1)) then
   (idx x.Syms i).bind fun x1 =>
   (i7 k x.W).bind fun n =>
   (iquo .i64 k x.W).bind fun n1 =>
   (m_R04_Within x1 (⟨0,0,x.W,x.H⟩:Box) (⟨n,n1⟩:Point)).bind fun y2 =>
   (idx y1.2.1 k).bind fun x2 =>
   (idx y1.2.1 (bk .i64 (bB .i64 y2.Y x.W) y2.X)).bind fun x3 =>
   (m_R45_same_o y1.1 l1 x2.Vars x3.Vars).bind fun y3 =>
   some (.next ((bk .i64 k 1),y3))
  else
   some (.out l1))
def b_R45_Formula_1 (t:Tree) (x:Bl) (y1:Int×(List Bp)×(List (List Int))) (stt:Int×(List (List Int))):Option (Lp (Int×(List (List Int))) ((List (List Int)))):=match stt with
 | (i,l) =>
  (bif (ltB i (bf x.Syms)) then
   (bh (b_R45_Formula_2 t x y1 i) bm (0,l)).bind fun l1 =>
   some (.next ((bk .i64 i 1),l1))
  else
   some (.out l))
def b_R45_Formula_3 (t:Tree) (x:Bl) (_y1:Int×(List Bp)×(List (List Int))) (stt:Int×Int×Int×Int×Int×Int×(List Bp)×(List (List Int))):Option (Lp (Int×Int×Int×Int×Int×Int×(List Bp)×(List (List Int))) ((Int×Int×Int×Int×Int×(List Bp)×(List (List Int))))):=match stt with
 | (gv,al,au,ar,av,aw,aS,l1) =>
  ((bif (ltB gv x.Gens) then
   (m_R45_fits (⟨al,l1⟩:Bm)).bind fun y2 =>
   some y2
  else
   some false)).bind fun a =>
  (bif a then
   (m_R45_next_o al l1 t (⟨⟨au,ar,av,aw⟩,aS⟩:Bq)).bind fun y2 =>
   some (.next ((bk .i64 gv 1),y2.1,y2.2.1,y2.2.2.1,y2.2.2.2.1,y2.2.2.2.2.1,y2.2.2.2.2.2.1,y2.2.2.2.2.2.2))
  else
   some (.out (al,au,ar,av,aw,aS,l1)))
def m_R45_Formula (t:Tree) (x:Bl):Option (Bm×Int×Int) :=
 (m_R44_Check t x).bind fun y =>
 (bif (neB y 0) then
  some ((⟨0,[]⟩:Bm),0,y)
 else
  (m_R45_cells (bB .i64 x.W x.H) t.States).bind fun y1 =>
  (bh (b_R45_Formula_1 t x y1) bm (0,y1.2.2)).bind fun l =>
  (bh (b_R45_Formula_3 t x y1) bm (0,y1.1,0,0,x.W,x.H,y1.2.1,l)).bind fun(al,au,ar,av,aw,aS,l1) =>
  ((m_R45_fits (⟨al,l1⟩:Bm)).bind fun y2 =>
  (bif y2 then
   (m_R45_ends_o al l1 x (⟨⟨0,0,x.W,x.H⟩,y1.2.1⟩:Bq) (⟨⟨au,ar,av,aw⟩,aS⟩:Bq)).bind fun y3 =>
   some y3
  else
   some l1)).bind fun l2 =>
  (m_R45_fits (⟨al,l2⟩:Bm)).bind fun y2 =>
  (bif (bW y2) then
   some ((⟨0,[]⟩:Bm),0,6)
  else
   some ((⟨al,l2⟩:Bm),y1.1,0)))
def m_L45_UnrollFormulas (t:Tree) (x:Bl):Option (Bool) :=
 (m_L45_Small t x).bind fun y =>
 (bif (bW y) then
  (m_L45_alive).bind fun y1 =>
  some y1
 else
  (m_unroll_Formula t x).bind fun y1 =>
  (m_R45_Formula t x).bind fun y2 =>
  ((m_R41_Equal y1.1 y2.1).bind fun y3 =>
  (bif y3 then
   (bif (eqB y1.2.1 y2.2.1) then
    (bif (eqB y1.2.2 y2.2.2) then
     (m_L45_alive).bind fun y4 =>
     some y4
    else
     some false)
   else
    some false)
  else
   some false)).bind fun a =>
  some a)
abbrev vI (n:Int):V:=.u (.one (.d (.int .i64 n)))
abbrev dI (n:Int):C:=.d (.int .i64 n)
abbrev vX (k:Nat):V:=.u (.one (.box k 0))
abbrev vO (k:Nat):V:=.u (.one (.own k))
abbrev dL (l:List Int):C:=.d (.sl 1 (List.map (rI .i64) l))
abbrev vT (b:Bool):V:=.u (.one (.d (.bool b)))
abbrev dR0 (l:List Cell):C:=.d (.sl 3 (List.map Cell.row l))
abbrev dR1 (l:List Node):C:=.d (.sl 2 (List.map Node.row l))
abbrev dR2 (l:List Point):C:=.d (.sl 2 (List.map Point.row l))
abbrev dR3 (l:List Bp):C:=.d (.sl 2 (List.map Bp.row l))
abbrev dR4 (l:List Bn):C:=.d (.sl 2 (List.map Bn.row l))
end Go.Proofs.YtnkmjlncmlmnbaaGreatDoor
