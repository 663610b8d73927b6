/- The types of the program, as lists and numbers. -/
import Derived.Test.YtcllfealpkhjfaaGreatDoorAmAp
import Derived.Test.YtcllfealpkhjfaaGreatDoorAmBs
import Derived.Test.YtcllfealpkhjfaaGreatDoorAmFz
import Derived.Test.YtcllfealpkhjfaaGreatDoorAmOr
namespace Go.Proofs.YtcllfealpkhjfaaGreatDoor
open Go.AM Go.Proofs
theorem rsetI (k:IntKind) (l:List Int) (i:Nat) (x:Int):(List.map (rI k) l).set i [L.int k x]=List.map (rI k) (l.set i x):=by rw[List.map_set]; rfl
structure Point where
 X:Int
 Y:Int
 deriving DecidableEq,Inhabited
def Point.row (x:Point):List L:=[.int .i64 x.X,.int .i64 x.Y]
theorem Point.row_eq (x:Point):x.row=[.int .i64 x.X,.int .i64 x.Y]:=rfl
theorem Point.rset (l:List Point) (i:Nat) (x0 x1:Int):(List.map Point.row l).set i [.int .i64 x0,.int .i64 x1]=List.map Point.row (l.set i ⟨x0,x1⟩):=by rw[List.map_set]; rfl
def Point.key (x:Point):Key:=.ints [x.X,x.Y]
def Point.ints (x:Point):List Int:=[x.X,x.Y]
instance:KeyF Point.key:=⟨fun a b h=>by unfold Point.key at h; cases a; cases b; injection h with h; simp only[List.cons.injEq,and_true] at h; simp only[Point.mk.injEq]; exact h⟩
structure Node where
 Level:Int
 Next:List Int
 deriving DecidableEq,Inhabited
def Node.row (x:Node):List L:=[.int .i64 x.Level,.sl 1 (List.map (rI .i64) x.Next)]
theorem Node.row_eq (x:Node):x.row=[.int .i64 x.Level,.sl 1 (List.map (rI .i64) x.Next)]:=rfl
structure Tree where
 States:Int
 Hood:List Point
 Nodes:List Node
 deriving DecidableEq,Inhabited
def Tree.row (x:Tree):List L:=[.int .i64 x.States,.sl 2 (List.map Point.row x.Hood),.sl 2 (List.map Node.row x.Nodes)]
theorem Tree.row_eq (x:Tree):x.row=[.int .i64 x.States,.sl 2 (List.map Point.row x.Hood),.sl 2 (List.map Node.row x.Nodes)]:=rfl
structure Aw where
 Hood:List Point
 States:Int
 Birth:List Int
 Survive:List Int
 deriving DecidableEq,Inhabited
def Aw.row (x:Aw):List L:=[.sl 2 (List.map Point.row x.Hood),.int .i64 x.States,.sl 1 (List.map (rI .i64) x.Birth),.sl 1 (List.map (rI .i64) x.Survive)]
theorem Aw.row_eq (x:Aw):x.row=[.sl 2 (List.map Point.row x.Hood),.int .i64 x.States,.sl 1 (List.map (rI .i64) x.Birth),.sl 1 (List.map (rI .i64) x.Survive)]:=rfl
structure Row where
 Ins:List Int
 Out:Int
 deriving DecidableEq,Inhabited
def Row.row (x:Row):List L:=[.sl 1 (List.map (rI .i64) x.Ins),.int .i64 x.Out]
theorem Row.row_eq (x:Row):x.row=[.sl 1 (List.map (rI .i64) x.Ins),.int .i64 x.Out]:=rfl
structure Table where
 States:Int
 Sym:Int
 Hood:List Point
 Vars:List (List Int)
 Rows:List Row
 deriving DecidableEq,Inhabited
def Table.row (x:Table):List L:=[.int .i64 x.States,.int .i64 x.Sym,.sl 2 (List.map Point.row x.Hood),.sl 1 (List.map (rS 1 (rI .i64)) x.Vars),.sl 2 (List.map Row.row x.Rows)]
theorem Table.row_eq (x:Table):x.row=[.int .i64 x.States,.int .i64 x.Sym,.sl 2 (List.map Point.row x.Hood),.sl 1 (List.map (rS 1 (rI .i64)) x.Vars),.sl 2 (List.map Row.row x.Rows)]:=rfl
structure Ax where
 ones:Int
 centre:Int
 deriving DecidableEq,Inhabited
def Ax.row (x:Ax):List L:=[.int .i64 x.ones,.int .i64 x.centre]
theorem Ax.row_eq (x:Ax):x.row=[.int .i64 x.ones,.int .i64 x.centre]:=rfl
theorem Ax.rset (l:List Ax) (i:Nat) (x0 x1:Int):(List.map Ax.row l).set i [.int .i64 x0,.int .i64 x1]=List.map Ax.row (l.set i ⟨x0,x1⟩):=by rw[List.map_set]; rfl
def Ax.key (x:Ax):Key:=.ints [x.ones,x.centre]
def Ax.ints (x:Ax):List Int:=[x.ones,x.centre]
instance:KeyF Ax.key:=⟨fun a b h=>by unfold Ax.key at h; cases a; cases b; injection h with h; simp only[List.cons.injEq,and_true] at h; simp only[Ax.mk.injEq]; exact h⟩
structure Ay where
 at_:Int
 s:Ax
 deriving DecidableEq,Inhabited
def Ay.row (x:Ay):List L:=[.int .i64 x.at_,.int .i64 x.s.ones,.int .i64 x.s.centre]
theorem Ay.row_eq (x:Ay):x.row=[.int .i64 x.at_,.int .i64 x.s.ones,.int .i64 x.s.centre]:=rfl
def Ay.key (x:Ay):Key:=.ints [x.at_,x.s.ones,x.s.centre]
def Ay.ints (x:Ay):List Int:=[x.at_,x.s.ones,x.s.centre]
instance:KeyF Ay.key:=⟨fun a b h=>by obtain⟨a0,⟨a1,a2⟩⟩:=a; obtain⟨b0,⟨b1,b2⟩⟩:=b; simp only[Ay.key,Key.ints.injEq,List.cons.injEq,and_true] at h; obtain⟨rfl,rfl,rfl⟩:=h; rfl⟩
structure Az where
 at_:Int
 s:Int
 deriving DecidableEq,Inhabited
def Az.row (x:Az):List L:=[.int .i64 x.at_,.int .i64 x.s]
theorem Az.row_eq (x:Az):x.row=[.int .i64 x.at_,.int .i64 x.s]:=rfl
theorem Az.rset (l:List Az) (i:Nat) (x0 x1:Int):(List.map Az.row l).set i [.int .i64 x0,.int .i64 x1]=List.map Az.row (l.set i ⟨x0,x1⟩):=by rw[List.map_set]; rfl
def Az.key (x:Az):Key:=.ints [x.at_,x.s]
def Az.ints (x:Az):List Int:=[x.at_,x.s]
instance:KeyF Az.key:=⟨fun a b h=>by unfold Az.key at h; cases a; cases b; injection h with h; simp only[List.cons.injEq,and_true] at h; simp only[Az.mk.injEq]; exact h⟩
attribute [simp] Point.row_eq Node.row_eq Tree.row_eq Aw.row_eq Row.row_eq Table.row_eq Ax.row_eq Ay.row_eq Az.row_eq
def g1R:List (Int×Int×Int×Int):=[(1,0,0,1),(0,(-1),1,0),((-1),0,0,(-1)),(0,1,(-1),0),((-1),0,0,1),(0,(-1),(-1),0),(1,0,0,(-1)),(0,1,1,0)]
end Go.Proofs.YtcllfealpkhjfaaGreatDoor
namespace Go.Proofs.YtcllfealpkhjfaaGreatDoor
end Go.Proofs.YtcllfealpkhjfaaGreatDoor
namespace Go.Proofs.YtcllfealpkhjfaaGreatDoor
open Go.AM Go.Proofs
def b_L12_Few_1 (t:Tree) (stt:Int):Option (Lp (Int) (Bool ⊕ Unit)):=match stt with
 | a1 =>
  (bif (ltB a1 (aT t.Nodes)) then
   (idx t.Nodes a1).bind fun x =>
   (bif (gtB (aT x.Next) 20) then
    some (.out (.inl false))
   else
    some (.next (bq .i64 a1 1)))
  else
   some (.out (.inr ())))
def m_L12_Few (t:Tree):Option (Bool) :=
 ((bif (gtB (aT t.Hood) 40) then
  some true
 else
  some (gtB (aT t.Nodes) 400))).bind fun a =>
 (bif a then
  some false
 else
  (aY (b_L12_Few_1 t) ba 0).bind fun o=>match o with
   | .inl r =>
    some r
   | .inr _u =>
    some true)
def m_internal_stringslite_HasPrefix (s ay:List UInt8):Option (Bool) :=
 ((bif (geB (dQ s) (dQ ay)) then
  (slcS s 0 (dQ ay)).bind fun s1 =>
  some (eqS s1 ay)
 else
  some false)).bind fun a =>
 some a
def m_internal_stringslite_CutPrefix (s ay:List UInt8):Option ((List UInt8)×Bool) :=
 (m_internal_stringslite_HasPrefix s ay).bind fun y =>
 (bif (bB y) then
  some (s,false)
 else
  (slcS s (dQ ay) (dQ s)).bind fun s1 =>
  some (s1,true))
def m_strings_CutPrefix (s ay:List UInt8):Option ((List UInt8)×Bool) :=
 (m_internal_stringslite_CutPrefix s ay).bind fun y =>
 some (y.1,y.2)
def m_strings_Cut (s sep:List UInt8):Option ((List UInt8)×(List UInt8)×Bool):=cutS s sep
def m_hood_Moore_1 (_x _y:Int):Option (Bool) :=
 some true
def b_hood_collect_hood_Moore_1_2 (r_ y:Int) (stt:Int×(List Point)):Option (Lp (Int×(List Point)) ((List Point))):=match stt with
 | (x,l1) =>
  (bif (leB x r_) then
   ((m_hood_Moore_1 x y).bind fun y1 =>
   (bif y1 then
    (appL 16 l1 [(⟨x,y⟩:Point)]).bind fun _l2 =>
    some (l1++[(⟨x,y⟩:Point)])
   else
    some l1)).bind fun l2 =>
   some (.next ((bq .i64 x 1),l2))
  else
   some (.out l1))
def b_hood_collect_hood_Moore_1_1 (r_:Int) (stt:Int×(List Point)):Option (Lp (Int×(List Point)) ((List Point))):=match stt with
 | (y,l) =>
  (bif (leB y r_) then
   (aY (b_hood_collect_hood_Moore_1_2 r_ y) ba ((da .i64 r_),l)).bind fun l1 =>
   some (.next ((bq .i64 y 1),l1))
  else
   some (.out l))
def m_hood_collect_hood_Moore_1 (r_:Int):Option (List Point) :=
 (aY (b_hood_collect_hood_Moore_1_1 r_) ba ((da .i64 r_),[])).bind fun l =>
 some l
def m_hood_Moore (r_:Int):Option (List Point) :=
 ((bif (ltB r_ 0) then
  some true
 else
  some (gtB r_ 2))).bind fun a =>
 (bif a then
  some []
 else
  (m_hood_collect_hood_Moore_1 r_).bind fun y =>
  some y)
def m_internal_stringslite_HasSuffix (s aC:List UInt8):Option (Bool) :=
 ((bif (geB (dQ s) (dQ aC)) then
  (slcS s (bc .i64 (dQ s) (dQ aC)) (dQ s)).bind fun s1 =>
  some (eqS s1 aC)
 else
  some false)).bind fun a =>
 some a
def m_internal_stringslite_CutSuffix (s aC:List UInt8):Option ((List UInt8)×Bool) :=
 (m_internal_stringslite_HasSuffix s aC).bind fun y =>
 (bif (bB y) then
  some (s,false)
 else
  (slcS s 0 (bc .i64 (dQ s) (dQ aC))).bind fun s1 =>
  some (s1,true))
def m_strings_CutSuffix (s aC:List UInt8):Option ((List UInt8)×Bool) :=
 (m_internal_stringslite_CutSuffix s aC).bind fun y =>
 some (y.1,y.2)
def m_hood_Neumann_1 (x y a:Int):Option (Bool) :=
 some (leB (bq .i64 (imax x (da .i64 x)) (imax y (da .i64 y))) a)
def b_hood_collect_hood_Neumann_1_o_2 (r_ cv y:Int) (stt:Int×(List Point)):Option (Lp (Int×(List Point)) ((List Point))):=match stt with
 | (x,l1) =>
  (bif (leB x r_) then
   ((m_hood_Neumann_1 x y cv).bind fun y1 =>
   (bif y1 then
    (appL 16 l1 [(⟨x,y⟩:Point)]).bind fun _l2 =>
    some (l1++[(⟨x,y⟩:Point)])
   else
    some l1)).bind fun l2 =>
   some (.next ((bq .i64 x 1),l2))
  else
   some (.out l1))
def b_hood_collect_hood_Neumann_1_o_1 (r_ cv:Int) (stt:Int×(List Point)):Option (Lp (Int×(List Point)) ((List Point))):=match stt with
 | (y,l) =>
  (bif (leB y r_) then
   (aY (b_hood_collect_hood_Neumann_1_o_2 r_ cv y) ba ((da .i64 r_),l)).bind fun l1 =>
   some (.next ((bq .i64 y 1),l1))
  else
   some (.out l))
def m_hood_collect_hood_Neumann_1_o (r_ cv:Int):Option (List Point) :=
 (aY (b_hood_collect_hood_Neumann_1_o_1 r_ cv) ba ((da .i64 r_),[])).bind fun l =>
 some l
def m_hood_Neumann (r_:Int):Option (List Point) :=
 ((bif (ltB r_ 0) then
  some true
 else
  some (gtB r_ 2))).bind fun a =>
 (bif a then
  some []
 else
  (m_hood_collect_hood_Neumann_1_o r_ r_).bind fun y =>
  some y)
def m_hood_Hex_1 (x y:Int):Option (Bool) :=
 some (geB (imul .i64 x y) 0)
def b_hood_collect_hood_Hex_1_2 (r_ y:Int) (stt:Int×(List Point)):Option (Lp (Int×(List Point)) ((List Point))):=match stt with
 | (x,l1) =>
  (bif (leB x r_) then
   ((m_hood_Hex_1 x y).bind fun y1 =>
   (bif y1 then
    (appL 16 l1 [(⟨x,y⟩:Point)]).bind fun _l2 =>
    some (l1++[(⟨x,y⟩:Point)])
   else
    some l1)).bind fun l2 =>
   some (.next ((bq .i64 x 1),l2))
  else
   some (.out l1))
def b_hood_collect_hood_Hex_1_1 (r_:Int) (stt:Int×(List Point)):Option (Lp (Int×(List Point)) ((List Point))):=match stt with
 | (y,l) =>
  (bif (leB y r_) then
   (aY (b_hood_collect_hood_Hex_1_2 r_ y) ba ((da .i64 r_),l)).bind fun l1 =>
   some (.next ((bq .i64 y 1),l1))
  else
   some (.out l))
def m_hood_collect_hood_Hex_1 (r_:Int):Option (List Point) :=
 (aY (b_hood_collect_hood_Hex_1_1 r_) ba ((da .i64 r_),[])).bind fun l =>
 some l
def m_hood_Hex:Option (List Point) :=
 (m_hood_collect_hood_Hex_1 1).bind fun y =>
 some y
def b_lifelike_ascends_1 (l:List Int) (n:Int) (stt:Int×Int):Option (Lp (Int×Int) (Bool ⊕ Unit)):=match stt with
 | (last,a) =>
  (bif (ltB a (aT l)) then
   (idx l a).bind fun x =>
   ((bif (leB x last) then
    some true
   else
    some (gtB x n))).bind fun a1 =>
   (bif a1 then
    some (.out (.inl false))
   else
    some (.next (x,(bq .i64 a 1))))
  else
   some (.out (.inr ())))
def m_lifelike_ascends (l:List Int) (n:Int):Option (Bool) :=
 (aY (b_lifelike_ascends_1 l n) ba ((-1),0)).bind fun o=>match o with
  | .inl r =>
   some r
  | .inr _u =>
   some true
def b_lifelike_digits_1 (l:List Int) (stt:Int×(List Int)):Option (Lp (Int×(List Int)) (((List Int)×Bool) ⊕ (List Int))):=match stt with
 | (a,out) =>
  (bif (ltB a (aT l)) then
   (idx l a).bind fun x =>
   ((bif (ltB x 48) then
    some true
   else
    some (gtB x 57))).bind fun a1 =>
   (bif a1 then
    some (.out (.inl ([],false)))
   else
    (appL 8 out [(eg .i64 (bc .u8 x 48))]).bind fun _l1 =>
    some (.next ((bq .i64 a 1),(out++[(eg .i64 (bc .u8 x 48))]))))
  else
   some (.out (.inr out)))
def m_lifelike_digits (s:List UInt8):Option ((List Int)×Bool) :=
 (toBk s).bind fun l =>
 (aY (b_lifelike_digits_1 l) ba (0,[])).bind fun o=>match o with
  | .inl r =>
   some r
  | .inr out =>
   (m_lifelike_ascends out 9).bind fun y =>
   some (out,y)
def b_slices_Equal_api_Point_api_Point_1 (sv1 sv2:List Point) (stt:Int):Option (Lp (Int) (Bool ⊕ Unit)):=match stt with
 | a =>
  (bif (ltB a (aT sv1)) then
   (idx sv1 a).bind fun x =>
   (idx sv2 a).bind fun x1 =>
   (bif (bB (gK (eqB x.X x1.X) (gK (eqB x.Y x1.Y) true))) then
    some (.out (.inl false))
   else
    some (.next (bq .i64 a 1)))
  else
   some (.out (.inr ())))
def m_slices_Equal_api_Point_api_Point (sv1 sv2:List Point):Option (Bool) :=
 (bif (neB (aT sv1) (aT sv2)) then
  some false
 else
  (aY (b_slices_Equal_api_Point_api_Point_1 sv1 sv2) ba 0).bind fun o=>match o with
   | .inl r =>
    some r
   | .inr _u =>
    some true)
def m_hood_Same (a b:List Point):Option (Bool) :=
 (m_slices_Equal_api_Point_api_Point a b).bind fun y =>
 some y
def m_lifelike_letter (l:List Point):Option ((List UInt8)×Bool) :=
 (m_hood_Moore 1).bind fun y =>
 (m_hood_Same l y).bind fun y1 =>
 (bif y1 then
  some (([]:List UInt8),true)
 else
  (m_hood_Neumann 1).bind fun y2 =>
  (m_hood_Same l y2).bind fun y3 =>
  (bif y3 then
   some (([86]:List UInt8),true)
  else
   (m_hood_Hex).bind fun y4 =>
   (m_hood_Same l y4).bind fun y5 =>
   (bif y5 then
    some (([72]:List UInt8),true)
   else
    some (([]:List UInt8),false))))
def m_lifelike_Right (t:Aw):Option (Bool) :=
 (m_lifelike_letter t.Hood).bind fun y =>
 ((bif y.2 then
  (bif (geB t.States 2) then
   (bif (leB t.States 8) then
    (m_lifelike_ascends t.Birth (bc .i64 (aT t.Hood) 1)).bind fun y1 =>
    (bif y1 then
     (m_lifelike_ascends t.Survive (bc .i64 (aT t.Hood) 1)).bind fun y2 =>
     some y2
    else
     some false)
   else
    some false)
  else
   some false)
 else
  some false)).bind fun a =>
 some a
def m_lifelike_Parse (s:List UInt8):Option (Aw×Int) :=
 (m_strings_CutPrefix s ([66]:List UInt8)).bind fun y =>
 (m_strings_Cut y.1 ([47,83]:List UInt8)).bind fun y1 =>
 ((bif (bB y.2) then
  some true
 else
  some (bB y1.2.2))).bind fun a =>
 (bif a then
  some ((⟨[],0,[],[]⟩:Aw),15)
 else
  (m_hood_Moore 1).bind fun y2 =>
  ((m_strings_CutSuffix y1.2.1 ([86]:List UInt8)).bind fun y3 =>
  (bif y3.2 then
   (m_hood_Neumann 1).bind fun y4 =>
   some (y3.1,y4)
  else
   (m_strings_CutSuffix y1.2.1 ([72]:List UInt8)).bind fun y4 =>
   (bif y4.2 then
    (m_hood_Hex).bind fun y5 =>
    some (y4.1,y5)
   else
    some (y1.2.1,y2)))).bind fun(aN,am) =>
  (m_lifelike_digits y1.1).bind fun y3 =>
  (m_lifelike_digits aN).bind fun y4 =>
  ((bif (bB y3.2) then
   some true
  else
   some (bB y4.2))).bind fun a1 =>
  (bif a1 then
   some ((⟨[],0,[],[]⟩:Aw),15)
  else
   (m_lifelike_Right (⟨am,2,y3.1,y4.1⟩:Aw)).bind fun y5 =>
   (bif (bB y5) then
    some ((⟨[],0,[],[]⟩:Aw),5)
   else
    some ((⟨am,2,y3.1,y4.1⟩:Aw),0))))
def m_strings_Split (s sep:List UInt8):Option (List (List UInt8)):=splitS s sep
def b_generations_digits_1 (l:List Int) (stt:Int×(List Int)):Option (Lp (Int×(List Int)) (((List Int)×Bool) ⊕ (List Int))):=match stt with
 | (a,out) =>
  (bif (ltB a (aT l)) then
   (idx l a).bind fun x =>
   ((bif (ltB (bc .i64 (eg .i64 x) 48) 0) then
    some true
   else
    (bif (gtB (bc .i64 (eg .i64 x) 48) 9) then
     some true
    else
     (bif (gtB (aT out) 0) then
      (idx out (bc .i64 (aT out) 1)).bind fun x1 =>
      some (leB (bc .i64 (eg .i64 x) 48) x1)
     else
      some false)))).bind fun a1 =>
   (bif a1 then
    some (.out (.inl ([],false)))
   else
    (appL 8 out [(bc .i64 (eg .i64 x) 48)]).bind fun _l1 =>
    some (.next ((bq .i64 a 1),(out++[(bc .i64 (eg .i64 x) 48)]))))
  else
   some (.out (.inr out)))
def m_generations_digits (s:List UInt8):Option ((List Int)×Bool) :=
 (toBk s).bind fun l =>
 (aY (b_generations_digits_1 l) ba (0,[])).bind fun o=>match o with
  | .inl r =>
   some r
  | .inr out =>
   some (out,true)
def b_generations_number_1 (_s:List UInt8) (l:List Int) (stt:Int):Option (Lp (Int) (Bool ⊕ Unit)):=match stt with
 | a =>
  (bif (ltB a (aT l)) then
   (idx l a).bind fun x =>
   ((bif (ltB x 48) then
    some true
   else
    some (gtB x 57))).bind fun a1 =>
   (bif a1 then
    some (.out (.inl false))
   else
    some (.next (bq .i64 a 1)))
  else
   some (.out (.inr ())))
def m_generations_number (s:List UInt8):Option (Bool) :=
 (toBk s).bind fun l =>
 (aY (b_generations_number_1 s l) ba 0).bind fun o=>match o with
  | .inl r =>
   some r
  | .inr _u =>
   ((bif (geB (dQ s) 1) then
    (bif (leB (dQ s) 3) then
     (idxS s 0).bind fun b =>
     some (neB b 48)
    else
     some false)
   else
    some false)).bind fun a =>
   some a
def m_strconv_Atoi (s:List UInt8):Option (Int):=atoiM s
def m_generations_Parse (s:List UInt8):Option (Aw×Int) :=
 (m_hood_Moore 1).bind fun y =>
 ((m_strings_CutSuffix s ([86]:List UInt8)).bind fun y1 =>
 (bif y1.2 then
  (m_hood_Neumann 1).bind fun y2 =>
  some (y1.1,y2)
 else
  (m_strings_CutSuffix s ([72]:List UInt8)).bind fun y2 =>
  (bif y2.2 then
   (m_hood_Hex).bind fun y3 =>
   some (y2.1,y3)
  else
   some (s,y)))).bind fun(s1,am) =>
 (m_strings_Split s1 ([47]:List UInt8)).bind fun y1 =>
 (bif (neB (aT y1) 3) then
  some ((⟨[],0,[],[]⟩:Aw),15)
 else
  (idx y1 1).bind fun x =>
  (idx y1 0).bind fun x1 =>
  (idx y1 2).bind fun x2 =>
  (m_strings_CutPrefix s1 ([66]:List UInt8)).bind fun y2 =>
  (bif y2.2 then
   (m_strings_Split y2.1 ([47]:List UInt8)).bind fun y3 =>
   (idx y3 1).bind fun x3 =>
   (m_strings_CutPrefix x3 ([83]:List UInt8)).bind fun y4 =>
   (idx y3 2).bind fun x4 =>
   (m_strings_CutPrefix x4 ([67]:List UInt8)).bind fun y5 =>
   ((bif (bB y4.2) then
    some true
   else
    some (bB y5.2))).bind fun a =>
   (bif a then
    some ((⟨[],0,[],[]⟩:Aw),15)
   else
    (idx y3 0).bind fun x5 =>
    (m_generations_digits x5).bind fun y6 =>
    (m_generations_digits y4.1).bind fun y7 =>
    ((bif (bB y6.2) then
     some true
    else
     (bif (bB y7.2) then
      some true
     else
      (m_generations_number y5.1).bind fun y8 =>
      some (bB y8)))).bind fun a1 =>
    (bif a1 then
     some ((⟨[],0,[],[]⟩:Aw),15)
    else
     (m_strconv_Atoi y5.1).bind fun y8 =>
     ((bif (ltB y8 3) then
      some true
     else
      (bif (gtB y8 8) then
       some true
      else
       (m_lifelike_Right (⟨am,y8,y6.1,y7.1⟩:Aw)).bind fun y9 =>
       some (bB y9)))).bind fun a2 =>
     (bif a2 then
      some ((⟨[],0,[],[]⟩:Aw),5)
     else
      some ((⟨am,y8,y6.1,y7.1⟩:Aw),0))))
  else
   (m_generations_digits x).bind fun y3 =>
   (m_generations_digits x1).bind fun y4 =>
   ((bif (bB y3.2) then
    some true
   else
    (bif (bB y4.2) then
     some true
    else
     (m_generations_number x2).bind fun y5 =>
     some (bB y5)))).bind fun a =>
   (bif a then
    some ((⟨[],0,[],[]⟩:Aw),15)
   else
    (m_strconv_Atoi x2).bind fun y5 =>
    ((bif (ltB y5 3) then
     some true
    else
     (bif (gtB y5 8) then
      some true
     else
      (m_lifelike_Right (⟨am,y5,y3.1,y4.1⟩:Aw)).bind fun y6 =>
      some (bB y6)))).bind fun a1 =>
    (bif a1 then
     some ((⟨[],0,[],[]⟩:Aw),5)
    else
     some ((⟨am,y5,y3.1,y4.1⟩:Aw),0)))))
def m_strings_Trim (s cs:List UInt8):Option (List UInt8):=trimM s cs
def m_wolfram_number (s:List UInt8):Option (Int×Bool×Bool) :=
 ((bif (eqS s ([]:List UInt8)) then
  some true
 else
  (bif (gtB (dQ s) 1) then
   (idxS s 0).bind fun b =>
   (bif (eqB b 48) then
    some true
   else
    (m_strings_Trim s ([48,49,50,51,52,53,54,55,56,57]:List UInt8)).bind fun y =>
    some (bB (eqS y ([]:List UInt8))))
  else
   (m_strings_Trim s ([48,49,50,51,52,53,54,55,56,57]:List UInt8)).bind fun y =>
   some (bB (eqS y ([]:List UInt8)))))).bind fun a =>
 (bif a then
  some (0,false,false)
 else
  (m_strconv_Atoi s).bind fun y =>
  some (y,true,true))
def m_wolfram_sums (states:Int):Option (Int) :=
 some (bc .i64 (imul .i64 3 states) 2)
def b_wolfram_Digits_1 (states y:Int) (stt:Int×Int×(List Int)):Option (Lp (Int×Int×(List Int)) ((Int×(List Int)))):=match stt with
 | (n1,a1,l) =>
  (bif (ltB a1 y) then
   (irem n1 states).bind fun n2 =>
   (appL 8 l [n2]).bind fun _l1 =>
   (iquo .i64 n1 states).bind fun n3 =>
   some (.next (n3,(bq .i64 a1 1),(l++[n2])))
  else
   some (.out (n1,l)))
def m_wolfram_Digits (states n:Int):Option ((List Int)×Int) :=
 ((bif (ltB states 2) then
  some true
 else
  some (gtB states 8))).bind fun a =>
 (bif a then
  some ([],2)
 else
  (bif (ltB n 0) then
   some ([],5)
  else
   (m_wolfram_sums states).bind fun y =>
   (aY (b_wolfram_Digits_1 states y) ba (n,0,[])).bind fun(n1,l) =>
   (bif (gtB n1 0) then
    some ([],5)
   else
    some (l,0))))
def m_wolfram_Parse (s:List UInt8):Option (Int×Int×Bool×Int) :=
 (m_strings_CutPrefix s ([87]:List UInt8)).bind fun y =>
 (bif y.2 then
  (m_wolfram_number y.1).bind fun y1 =>
  (bif (bB y1.2.1) then
   some (0,0,false,15)
  else
   ((bif (bB y1.2.2) then
    some true
   else
    some (gtB y1.1 255))).bind fun a =>
   (bif a then
    some (0,0,false,5)
   else
    some (2,y1.1,false,0)))
 else
  (m_strings_CutPrefix s ([84]:List UInt8)).bind fun y1 =>
  (m_strings_Cut y1.1 ([47]:List UInt8)).bind fun y2 =>
  (m_wolfram_number y2.1).bind fun y3 =>
  (m_wolfram_number y2.2.1).bind fun y4 =>
  ((bif (bB y1.2) then
   some true
  else
   (bif (bB y2.2.2) then
    some true
   else
    (bif (bB y3.2.1) then
     some true
    else
     some (bB y4.2.1))))).bind fun a =>
  (bif a then
   some (0,0,false,15)
  else
   ((bif (bB y3.2.2) then
    some true
   else
    some (bB y4.2.2))).bind fun a1 =>
   (bif a1 then
    some (0,0,false,5)
   else
    (m_wolfram_Digits y4.1 y3.1).bind fun y5 =>
    (bif (neB y5.2 0) then
     some (0,0,false,5)
    else
     some (y4.1,y3.1,true,0)))))
def m_strings_HasPrefix (s ay:List UInt8):Option (Bool) :=
 (m_internal_stringslite_HasPrefix s ay).bind fun y =>
 some y
def m_strings_Index (s sub:List UInt8):Option (Int):=indexS s sub
def m_strings_Contains (s aO:List UInt8):Option (Bool) :=
 (m_strings_Index s aO).bind fun y =>
 some (geB y 0)
def m_notation_Kind (s:List UInt8):Option (Int) :=
 (m_lifelike_Parse s).bind fun y =>
 (bif (neB y.2 15) then
  some 1
 else
  (m_generations_Parse s).bind fun y1 =>
  (bif (neB y1.2 15) then
   some 2
  else
   (m_wolfram_Parse s).bind fun y2 =>
   (bif (neB y2.2.2.2 15) then
    (m_strings_HasPrefix s ([87]:List UInt8)).bind fun y3 =>
    (bif y3 then
     some 3
    else
     (m_strings_HasPrefix s ([84]:List UInt8)).bind fun y4 =>
     (bif y4 then
      some 4
     else
      (m_strings_Contains s ([10]:List UInt8)).bind fun y5 =>
      (bif y5 then
       some 5
      else
       some 0)))
   else
    (m_strings_Contains s ([10]:List UInt8)).bind fun y3 =>
    (bif y3 then
     some 5
    else
     some 0))))
def m_cmp_isNaN_int (x:Int):Option (Bool) :=
 some (neB x x)
def m_cmp_Compare_int (x y:Int):Option (Int) :=
 (m_cmp_isNaN_int x).bind fun y1 =>
 (m_cmp_isNaN_int y).bind fun y2 =>
 (bif y1 then
  (bif y2 then
   some 0
  else
   some (-1))
 else
  (bif y2 then
   some 1
  else
   (bif (ltB x y) then
    some (-1)
   else
    (bif (gtB x y) then
     some 1
    else
     some 0))))
def b_cmp_Or_int_1 (vals:List Int) (stt:Int):Option (Lp (Int) (Int ⊕ Unit)):=match stt with
 | a =>
  (bif (ltB a (aT vals)) then
   (idx vals a).bind fun x =>
   (bif (neB x 0) then
    some (.out (.inl x))
   else
    some (.next (bq .i64 a 1)))
  else
   some (.out (.inr ())))
def m_cmp_Or_int (vals:List Int):Option (Int) :=
 (aY (b_cmp_Or_int_1 vals) ba 0).bind fun o=>match o with
  | .inl r =>
   some r
  | .inr _u =>
   some 0
def m_point_Compare (a b:Point):Option (Int) :=
 (m_cmp_Compare_int a.Y b.Y).bind fun y =>
 (m_cmp_Compare_int a.X b.X).bind fun y1 =>
 (m_cmp_Or_int [y,y1]).bind fun y2 =>
 some y2
def b_hood_Right_1 (l:List Point) (stt:Int):Option (Lp (Int) (Bool ⊕ Unit)):=match stt with
 | a1 =>
  (bif (ltB a1 (aT l)) then
   (idx l a1).bind fun x =>
   ((bif (ltB x.X (-2)) then
    some true
   else
    (bif (gtB x.X 2) then
     some true
    else
     (bif (ltB x.Y (-2)) then
      some true
     else
      (bif (gtB x.Y 2) then
       some true
      else
       (bif (gtB a1 0) then
        (idx l (bc .i64 a1 1)).bind fun x1 =>
        (m_point_Compare x1 x).bind fun y =>
        some (geB y 0)
       else
        some false)))))).bind fun a2 =>
   (bif a2 then
    some (.out (.inl false))
   else
    some (.next (bq .i64 a1 1)))
  else
   some (.out (.inr ())))
def m_hood_Right (l:List Point):Option (Bool) :=
 ((bif (ltB (aT l) 1) then
  some true
 else
  some (gtB (aT l) 25))).bind fun a =>
 (bif a then
  some false
 else
  (aY (b_hood_Right_1 l) ba 0).bind fun o=>match o with
   | .inl r =>
    some r
   | .inr _u =>
    some true)
def b_slices_Index_api_Point_api_Point_1 (s:List Point) (v:Point) (stt:Int):Option (Lp (Int) (Int ⊕ Unit)):=match stt with
 | a =>
  (bif (ltB a (aT s)) then
   (idx s a).bind fun x =>
   (bif (gK (eqB v.X x.X) (gK (eqB v.Y x.Y) true)) then
    some (.out (.inl a))
   else
    some (.next (bq .i64 a 1)))
  else
   some (.out (.inr ())))
def m_slices_Index_api_Point_api_Point (s:List Point) (v:Point):Option (Int) :=
 (aY (b_slices_Index_api_Point_api_Point_1 s v) ba 0).bind fun o=>match o with
  | .inl r =>
   some r
  | .inr _u =>
   some (-1)
def m_hood_Centre (l:List Point):Option (Int) :=
 (m_hood_Right l).bind fun y =>
 (bif (bB y) then
  some (-1)
 else
  (m_slices_Index_api_Point_api_Point l (⟨0,0⟩:Point)).bind fun y1 =>
  some y1)
def m_slices_Clone_api_Point_api_Point (l:List Point):Option (List Point):=appL 16 [] l
def b_slices_Index_int_int_1 (s:List Int) (v stt:Int):Option (Lp (Int) (Int ⊕ Unit)):=match stt with
 | a =>
  (bif (ltB a (aT s)) then
   (idx s a).bind fun x =>
   (bif (eqB v x) then
    some (.out (.inl a))
   else
    some (.next (bq .i64 a 1)))
  else
   some (.out (.inr ())))
def m_slices_Index_int_int (s:List Int) (v:Int):Option (Int) :=
 (aY (b_slices_Index_int_int_1 s v) ba 0).bind fun o=>match o with
  | .inl r =>
   some r
  | .inr _u =>
   some (-1)
def m_slices_Contains_int_int (s:List Int) (v:Int):Option (Bool) :=
 (m_slices_Index_int_int s v).bind fun y =>
 some (geB y 0)
def m_totaltree_Totals_2 (s:Ax) (a:Aw):Option (Int) :=
 (bif (eqB s.centre 0) then
  ((m_slices_Contains_int_int a.Birth s.ones).bind fun y =>
  (bif y then
   some 1
  else
   some s.centre)).bind fun next =>
  some next
 else
  ((bif (eqB s.centre 1) then
   (m_slices_Contains_int_int a.Survive s.ones).bind fun y =>
   some y
  else
   some false)).bind fun a1 =>
  (bif a1 then
   some 1
  else
   (irem (bq .i64 s.centre 1) a.States).bind fun n =>
   some n))
def m_totaltree_Totals_1_o (s:Ax) (at_ state a:Int):Option (Int×Int) :=
 ((bif (eqB at_ a) then
  some (s.ones,state)
 else
  (bif (eqB state 1) then
   some ((bq .i64 s.ones 1),s.centre)
  else
   some (s.ones,s.centre)))).bind fun(sones,scentre) =>
 some (sones,scentre)
def m_internal_strconv_AppendUint_o (l:List Int) (n base:Int):Option (List Int):=appUM l n base
def m_internal_strconv_AppendInt_o (dst:List Int) (i base:Int):Option (List Int) :=
 ((bif (ltB i 0) then
  (appL 1 dst [45]).bind fun _l =>
  some ((da .u64 (eg .u64 i)),(dst++[45]))
 else
  some ((eg .u64 i),dst))).bind fun(u,dst1) =>
 (m_internal_strconv_AppendUint_o dst1 u base).bind fun y =>
 some y
def m_strconv_AppendInt_o (dst:List Int) (i base:Int):Option (List Int) :=
 (m_internal_strconv_AppendInt_o dst i base).bind fun y =>
 some y
def b_totaltree_build_totaltree_sum_1_o_o_o_o_o_o_o_o_1 (rcv:(Ay->(List Point)->(List Point)->Int->(List Int)->(List Int)->(List (Ay×Int))->Int->Int->(List (List UInt8×Int))->Int->(List Point)->(List Node)->Option (Int×(List (Ay×Int))×(List (List UInt8×Int))×(List Node)))) (p:Ay) (a ag:List Point) (a8:Int) (aw ai:List Int) (a2 cv av:Int) (az:List Point) (_u:Unit) (stt:Int×(List Node)×(List Int)×(List Int)×(List (Ay×Int))×(List (List UInt8×Int))):Option (Lp (Int×(List Node)×(List Int)×(List Int)×(List (Ay×Int))×(List (List UInt8×Int))) (((List Node)×(List Int)×(List Int)×(List (Ay×Int))×(List (List UInt8×Int))))):=match stt with
 | (a3,l,keyv,l1,mp,mp1) =>
  (bif (ltB a3 a2) then
   (m_totaltree_Totals_1_o p.s p.at_ a3 cv).bind fun y =>
   (rcv (⟨(bq .i64 p.at_ 1),⟨y.1,y.2⟩⟩:Ay) a ag a8 aw ai mp a2 cv mp1 av az l).bind fun y1 =>
   (appL 8 l1 [y1.1]).bind fun _l2 =>
   (appL 1 keyv [32]).bind fun _l3 =>
   (m_strconv_AppendInt_o (keyv++[32]) y1.1 10).bind fun y2 =>
   some (.next ((bq .i64 a3 1),y1.2.2.2,y2,(l1++[y1.1]),y1.2.1,y1.2.2.1))
  else
   some (.out (l,keyv,l1,mp,mp1)))
def mb_totaltree_build_totaltree_sum_1_o_o_o_o_o_o_o_o (rcv:(Ay->(List Point)->(List Point)->Int->(List Int)->(List Int)->(List (Ay×Int))->Int->Int->(List (List UInt8×Int))->Int->(List Point)->(List Node)->Option (Int×(List (Ay×Int))×(List (List UInt8×Int))×(List Node)))) (p:Ay) (a ag:List Point) (a8:Int) (aw ai:List Int) (a1:List (Ay×Int)) (a2 cv:Int) (cv1:List (List UInt8×Int)) (av:Int) (az:List Point) (ar:List Node):Option (Int×(List (Ay×Int))×(List (List UInt8×Int))×(List Node)) :=
 (bif (eqB p.at_ (aT a)) then
  (m_totaltree_Totals_2 p.s (⟨ag,a8,aw,ai⟩:Aw)).bind fun y =>
  some (y,a1,cv1,ar)
 else
  (kckL [p.at_,p.s.ones,p.s.centre]).bind fun u =>
  (bif (cb a1 p) then
   some ((ek a1 p 0),a1,cv1,ar)
  else
   (aY (b_totaltree_build_totaltree_sum_1_o_o_o_o_o_o_o_o_1 rcv p a ag a8 aw ai a2 cv av az u) ba (0,ar,[(eg .u8 (bc .i64 (aT a) p.at_))],[],a1,cv1)).bind fun(l,keyv,l1,mp,mp1) =>
   (kckS (ofBytes keyv)).bind fun _u1 =>
   ((bif (bB (cb mp1 (ofBytes keyv))) then
    (appL 32 l [(⟨(bc .i64 (aT a) p.at_),l1⟩:Node)]).bind fun _l2 =>
    some ((aT l),(dD mp1 (ofBytes keyv) (aT l)),(l++[(⟨(bc .i64 (aT a) p.at_),l1⟩:Node)]))
   else
    some ((ek mp1 (ofBytes keyv) 0),mp1,l))).bind fun(idv,mp2,l2) =>
   some (idv,(dD mp p idv),mp2,l2)))
def m_totaltree_build_totaltree_sum_1_o_o_o_o_o_o_o_o (p:Ay) (a ag:List Point) (a8:Int) (aw ai:List Int) (a1:List (Ay×Int)) (a2 cv:Int) (cv1:List (List UInt8×Int)) (av:Int) (az:List Point) (ar:List Node):Option (Int×(List (Ay×Int))×(List (List UInt8×Int))×(List Node)):=fU mb_totaltree_build_totaltree_sum_1_o_o_o_o_o_o_o_o (fun _ _ _ _ _ _ _ _ _ _ _ _ _=>none) fg p a ag a8 aw ai a1 a2 cv cv1 av az ar
def m_totaltree_build_totaltree_sum_totaltree_Totals_1_o_totaltree_Totals_2_o (states:Int) (l:List Point) (start:Ax) (cv:Int) (ag:List Point) (a8:Int) (aw ai:List Int):Option (List Node) :=
 (m_totaltree_build_totaltree_sum_1_o_o_o_o_o_o_o_o (⟨0,⟨start.ones,start.centre⟩⟩:Ay) l ag a8 aw ai [] states cv [] states l []).bind fun y =>
 some y.2.2.2
def m_totaltree_Totals (x:Aw):Option (Tree×Int) :=
 (m_lifelike_Right x).bind fun y =>
 (bif (bB y) then
  some ((⟨0,[],[]⟩:Tree),2)
 else
  (m_hood_Centre x.Hood).bind fun y1 =>
  (m_slices_Clone_api_Point_api_Point x.Hood).bind fun y2 =>
  (m_totaltree_build_totaltree_sum_totaltree_Totals_1_o_totaltree_Totals_2_o x.States y2 (⟨0,0⟩:Ax) y1 x.Hood x.States x.Birth x.Survive).bind fun y3 =>
  some ((⟨x.States,y2,y3⟩:Tree),0))
def b_wolfram_Elementary_1 (n:Int) (stt:Int×(List Int)):Option (Lp (Int×(List Int)) ((List Int))):=match stt with
 | (a1,l) =>
  (bif (ltB a1 8) then
   (ishr .i64 n a1).bind fun n1 =>
   (fX 8 l a1).bind fun _x =>
   some (.next ((bq .i64 a1 1),(l.set a1.toNat (iand .i64 n1 1))))
  else
   some (.out l))
def m_wolfram_Elementary (n:Int):Option ((Int×Int×Int×Int×Int×Int×Int×Int)×Int) :=
 ((bif (ltB n 0) then
  some true
 else
  some (gtB n 255))).bind fun a =>
 (bif a then
  (arr8 [0,0,0,0,0,0,0,0]).bind fun arr =>
  some (arr,5)
 else
  (aY (b_wolfram_Elementary_1 n) ba (0,[0,0,0,0,0,0,0,0])).bind fun l =>
  (arr8 l).bind fun arr =>
  some (arr,0))
def m_totaltree_row:Option (List Point) :=
 some [(⟨(-1),0⟩:Point),(⟨0,0⟩:Point),(⟨1,0⟩:Point)]
def m_totaltree_Elementary_2 (i:Int) (a:Int×Int×Int×Int×Int×Int×Int×Int):Option (Int) :=
 (fX 8 [a.1,a.2.1,a.2.2.1,a.2.2.2.1,a.2.2.2.2.1,a.2.2.2.2.2.1,a.2.2.2.2.2.2.1,a.2.2.2.2.2.2.2] i).bind fun x =>
 some x
def m_totaltree_Elementary_1 (i _at_ state:Int):Option (Int) :=
 some (bq .i64 (imul .i64 2 i) state)
def b_totaltree_build_int_1_o_o_o_o_o_o_o_o_1 (rcv:(Az->(List Point)->Int->Int->Int->Int->Int->Int->Int->Int->(List (Az×Int))->Int->(List (List UInt8×Int))->Int->(List Point)->(List Node)->Option (Int×(List (Az×Int))×(List (List UInt8×Int))×(List Node)))) (p:Az) (a:List Point) (cv1 aB ax au aj ah ac ae a2 a8:Int) (ag:List Point) (_u:Unit) (stt:Int×(List Node)×(List Int)×(List Int)×(List (Az×Int))×(List (List UInt8×Int))):Option (Lp (Int×(List Node)×(List Int)×(List Int)×(List (Az×Int))×(List (List UInt8×Int))) (((List Node)×(List Int)×(List Int)×(List (Az×Int))×(List (List UInt8×Int))))):=match stt with
 | (a3,l,keyv,l1,mp,mp1) =>
  (bif (ltB a3 a2) then
   (m_totaltree_Elementary_1 p.s p.at_ a3).bind fun y =>
   (rcv (⟨(bq .i64 p.at_ 1),y⟩:Az) a cv1 aB ax au aj ah ac ae mp a2 mp1 a8 ag l).bind fun y1 =>
   (appL 8 l1 [y1.1]).bind fun _l2 =>
   (appL 1 keyv [32]).bind fun _l3 =>
   (m_strconv_AppendInt_o (keyv++[32]) y1.1 10).bind fun y2 =>
   some (.next ((bq .i64 a3 1),y1.2.2.2,y2,(l1++[y1.1]),y1.2.1,y1.2.2.1))
  else
   some (.out (l,keyv,l1,mp,mp1)))
def mb_totaltree_build_int_1_o_o_o_o_o_o_o_o (rcv:(Az->(List Point)->Int->Int->Int->Int->Int->Int->Int->Int->(List (Az×Int))->Int->(List (List UInt8×Int))->Int->(List Point)->(List Node)->Option (Int×(List (Az×Int))×(List (List UInt8×Int))×(List Node)))) (p:Az) (a:List Point) (cv1 aB ax au aj ah ac ae:Int) (a1:List (Az×Int)) (a2:Int) (cv:List (List UInt8×Int)) (a8:Int) (ag:List Point) (ar:List Node):Option (Int×(List (Az×Int))×(List (List UInt8×Int))×(List Node)) :=
 (bif (eqB p.at_ (aT a)) then
  (m_totaltree_Elementary_2 p.s ((cv1,aB,ax,au,aj,ah,ac,ae):Int×Int×Int×Int×Int×Int×Int×Int)).bind fun y =>
  some (y,a1,cv,ar)
 else
  (kckL [p.at_,p.s]).bind fun u =>
  (bif (cb a1 p) then
   some ((ek a1 p 0),a1,cv,ar)
  else
   (aY (b_totaltree_build_int_1_o_o_o_o_o_o_o_o_1 rcv p a cv1 aB ax au aj ah ac ae a2 a8 ag u) ba (0,ar,[(eg .u8 (bc .i64 (aT a) p.at_))],[],a1,cv)).bind fun(l,keyv,l1,mp,mp1) =>
   (kckS (ofBytes keyv)).bind fun _u1 =>
   ((bif (bB (cb mp1 (ofBytes keyv))) then
    (appL 32 l [(⟨(bc .i64 (aT a) p.at_),l1⟩:Node)]).bind fun _l2 =>
    some ((aT l),(dD mp1 (ofBytes keyv) (aT l)),(l++[(⟨(bc .i64 (aT a) p.at_),l1⟩:Node)]))
   else
    some ((ek mp1 (ofBytes keyv) 0),mp1,l))).bind fun(idv,mp2,l2) =>
   some (idv,(dD mp p idv),mp2,l2)))
def m_totaltree_build_int_1_o_o_o_o_o_o_o_o (p:Az) (a:List Point) (cv1 aB ax au aj ah ac ae:Int) (a1:List (Az×Int)) (a2:Int) (cv:List (List UInt8×Int)) (a8:Int) (ag:List Point) (ar:List Node):Option (Int×(List (Az×Int))×(List (List UInt8×Int))×(List Node)):=fU mb_totaltree_build_int_1_o_o_o_o_o_o_o_o (fun _ _ _ _ _ _ _ _ _ _ _ _ _ _ _ _=>none) fg p a cv1 aB ax au aj ah ac ae a1 a2 cv a8 ag ar
def m_totaltree_build_int_totaltree_Elementary_1_totaltree_Elementary_2_o (states:Int) (l:List Point) (start cv1 aB ax au aj ah ac ae:Int):Option (List Node) :=
 (m_totaltree_build_int_1_o_o_o_o_o_o_o_o (⟨0,start⟩:Az) l cv1 aB ax au aj ah ac ae [] states [] states l []).bind fun y =>
 some y.2.2.2
def m_totaltree_Elementary (n:Int):Option (Tree×Int) :=
 (m_wolfram_Elementary n).bind fun y =>
 (bif (neB y.2 0) then
  some ((⟨0,[],[]⟩:Tree),y.2)
 else
  (m_totaltree_row).bind fun y1 =>
  (m_totaltree_build_int_totaltree_Elementary_1_totaltree_Elementary_2_o 2 y1 0 y.1.1 y.1.2.1 y.1.2.2.1 y.1.2.2.2.1 y.1.2.2.2.2.1 y.1.2.2.2.2.2.1 y.1.2.2.2.2.2.2.1 y.1.2.2.2.2.2.2.2).bind fun y2 =>
  some ((⟨2,y1,y2⟩:Tree),0))
def m_totaltree_Sums_2 (s:Int) (a:List Int):Option (Int) :=
 (idx a s).bind fun x =>
 some x
def m_totaltree_Sums_1 (s _at_ state:Int):Option (Int) :=
 some (bq .i64 s state)
def b_totaltree_build_int_1_o_o_o_o_o_o_o_ox_1 (rcv:(Az->(List Point)->(List Int)->(List (Az×Int))->Int->(List (List UInt8×Int))->Int->(List Point)->(List Node)->Option (Int×(List (Az×Int))×(List (List UInt8×Int))×(List Node)))) (p:Az) (a:List Point) (cv:List Int) (a2 a8:Int) (ag:List Point) (_u:Unit) (stt:Int×(List Node)×(List Int)×(List Int)×(List (Az×Int))×(List (List UInt8×Int))):Option (Lp (Int×(List Node)×(List Int)×(List Int)×(List (Az×Int))×(List (List UInt8×Int))) (((List Node)×(List Int)×(List Int)×(List (Az×Int))×(List (List UInt8×Int))))):=match stt with
 | (a3,l,keyv,l1,mp,mp1) =>
  (bif (ltB a3 a2) then
   (m_totaltree_Sums_1 p.s p.at_ a3).bind fun y =>
   (rcv (⟨(bq .i64 p.at_ 1),y⟩:Az) a cv mp a2 mp1 a8 ag l).bind fun y1 =>
   (appL 8 l1 [y1.1]).bind fun _l2 =>
   (appL 1 keyv [32]).bind fun _l3 =>
   (m_strconv_AppendInt_o (keyv++[32]) y1.1 10).bind fun y2 =>
   some (.next ((bq .i64 a3 1),y1.2.2.2,y2,(l1++[y1.1]),y1.2.1,y1.2.2.1))
  else
   some (.out (l,keyv,l1,mp,mp1)))
def mb_totaltree_build_int_1_o_o_o_o_o_o_o_ox (rcv:(Az->(List Point)->(List Int)->(List (Az×Int))->Int->(List (List UInt8×Int))->Int->(List Point)->(List Node)->Option (Int×(List (Az×Int))×(List (List UInt8×Int))×(List Node)))) (p:Az) (a:List Point) (cv:List Int) (a1:List (Az×Int)) (a2:Int) (cv1:List (List UInt8×Int)) (a8:Int) (ag:List Point) (ar:List Node):Option (Int×(List (Az×Int))×(List (List UInt8×Int))×(List Node)) :=
 (bif (eqB p.at_ (aT a)) then
  (m_totaltree_Sums_2 p.s cv).bind fun y =>
  some (y,a1,cv1,ar)
 else
  (kckL [p.at_,p.s]).bind fun u =>
  (bif (cb a1 p) then
   some ((ek a1 p 0),a1,cv1,ar)
  else
   (aY (b_totaltree_build_int_1_o_o_o_o_o_o_o_ox_1 rcv p a cv a2 a8 ag u) ba (0,ar,[(eg .u8 (bc .i64 (aT a) p.at_))],[],a1,cv1)).bind fun(l,keyv,l1,mp,mp1) =>
   (kckS (ofBytes keyv)).bind fun _u1 =>
   ((bif (bB (cb mp1 (ofBytes keyv))) then
    (appL 32 l [(⟨(bc .i64 (aT a) p.at_),l1⟩:Node)]).bind fun _l2 =>
    some ((aT l),(dD mp1 (ofBytes keyv) (aT l)),(l++[(⟨(bc .i64 (aT a) p.at_),l1⟩:Node)]))
   else
    some ((ek mp1 (ofBytes keyv) 0),mp1,l))).bind fun(idv,mp2,l2) =>
   some (idv,(dD mp p idv),mp2,l2)))
def m_totaltree_build_int_1_o_o_o_o_o_o_o_ox (p:Az) (a:List Point) (cv:List Int) (a1:List (Az×Int)) (a2:Int) (cv1:List (List UInt8×Int)) (a8:Int) (ag:List Point) (ar:List Node):Option (Int×(List (Az×Int))×(List (List UInt8×Int))×(List Node)):=fU mb_totaltree_build_int_1_o_o_o_o_o_o_o_ox (fun _ _ _ _ _ _ _ _ _=>none) fg p a cv a1 a2 cv1 a8 ag ar
def m_totaltree_build_int_totaltree_Sums_1_totaltree_Sums_2_o (states:Int) (l:List Point) (start:Int) (cv:List Int):Option (List Node) :=
 (m_totaltree_build_int_1_o_o_o_o_o_o_o_ox (⟨0,start⟩:Az) l cv [] states [] states l []).bind fun y =>
 some y.2.2.2
def m_totaltree_Sums (states n:Int):Option (Tree×Int) :=
 (m_wolfram_Digits states n).bind fun y =>
 (bif (neB y.2 0) then
  some ((⟨0,[],[]⟩:Tree),y.2)
 else
  (m_totaltree_row).bind fun y1 =>
  (m_totaltree_build_int_totaltree_Sums_1_totaltree_Sums_2_o states y1 0 y.1).bind fun y2 =>
  some ((⟨states,y1,y2⟩:Tree),0))
def m_notation_Parse (s:List UInt8):Option (Tree×Int) :=
 (m_notation_Kind s).bind fun y =>
 ((bif (eqB y 1) then
  some (eqB y 1)
 else
  some (eqB y 2))).bind fun a =>
 (bif a then
  (bif (eqB y 2) then
   (m_generations_Parse s).bind fun y1 =>
   (bif (neB y1.2 0) then
    some ((⟨0,[],[]⟩:Tree),y1.2)
   else
    (m_totaltree_Totals y1.1).bind fun y2 =>
    some (y2.1,y2.2))
  else
   (m_lifelike_Parse s).bind fun y1 =>
   (bif (neB y1.2 0) then
    some ((⟨0,[],[]⟩:Tree),y1.2)
   else
    (m_totaltree_Totals y1.1).bind fun y2 =>
    some (y2.1,y2.2)))
 else
  ((bif (eqB y 3) then
   some (eqB y 3)
  else
   some (eqB y 4))).bind fun a1 =>
  (bif a1 then
   (m_wolfram_Parse s).bind fun y1 =>
   (bif (neB y1.2.2.2 0) then
    some ((⟨0,[],[]⟩:Tree),y1.2.2.2)
   else
    (bif (eqB y 3) then
     (m_totaltree_Elementary y1.2.1).bind fun y2 =>
     some (y2.1,y2.2)
    else
     (m_totaltree_Sums y1.1 y1.2.1).bind fun y2 =>
     some (y2.1,y2.2)))
  else
   (bif (eqB y 5) then
    none
   else
    some ((⟨0,[],[]⟩:Tree),7))))
def dgB (n:Int):UInt8:=UInt8.ofNat (Go.RowKit.wrap64 (48+n) % 256).toNat
def m_lifelike_Text (t:Aw):Option (List UInt8):=(m_lifelike_Right t).bind fun ok =>
 bif bB ok then some [] else bif neB t.States 2 then some [] else
 bif Nat.ble (t.Birth.length+t.Survive.length) 1000000 then (m_lifelike_letter t.Hood).bind fun r=>bif Nat.ble r.1.length 1000000 then some (([66]++t.Birth.map dgB++([47,83]++t.Survive.map dgB))++r.1) else none else none
def m_generations_Plain (t:Aw):Option (Aw) :=
 (m_lifelike_Right t).bind fun y =>
 (bif (bB y) then
  some (⟨[],0,[],[]⟩:Aw)
 else
  some (⟨t.Hood,2,t.Birth,t.Survive⟩:Aw))
def m_internal_strconv_small (i:Int):Option (List UInt8) :=
 (bif (ltB i 10) then
  (slcS ([48,49,50,51,52,53,54,55,56,57,97,98,99,100,101,102,103,104,105,106,107,108,109,110,111,112,113,114,115,116,117,118,119,120,121,122]:List UInt8) i (bq .i64 i 1)).bind fun s =>
  some s
 else
  (slcS ([48,48,48,49,48,50,48,51,48,52,48,53,48,54,48,55,48,56,48,57,49,48,49,49,49,50,49,51,49,52,49,53,49,54,49,55,49,56,49,57,50,48,50,49,50,50,50,51,50,52,50,53,50,54,50,55,50,56,50,57,51,48,51,49,51,50,51,51,51,52,51,53,51,54,51,55,51,56,51,57,52,48,52,49,52,50,52,51,52,52,52,53,52,54,52,55,52,56,52,57,53,48,53,49,53,50,53,51,53,52,53,53,53,54,53,55,53,56,53,57,54,48,54,49,54,50,54,51,54,52,54,53,54,54,54,55,54,56,54,57,55,48,55,49,55,50,55,51,55,52,55,53,55,54,55,55,55,56,55,57,56,48,56,49,56,50,56,51,56,52,56,53,56,54,56,55,56,56,56,57,57,48,57,49,57,50,57,51,57,52,57,53,57,54,57,55,57,56,57,57]:List UInt8) (imul .i64 i 2) (bq .i64 (imul .i64 i 2) 2)).bind fun s =>
  some s)
def m_internal_strconv_FormatInt (i base:Int):Option (List UInt8) :=
 (bif (eqB base 10) then
  ((bif (leB 0 i) then
   some (ltB i 100)
  else
   some false)).bind fun a =>
  (bif a then
   (m_internal_strconv_small i).bind fun y =>
   some y
  else
   ((bif (ltB i 0) then
    some (da .u64 (eg .u64 i))
   else
    some (eg .u64 i))).bind fun _u =>
   none)
 else
  none)
def m_internal_strconv_Itoa (i:Int):Option (List UInt8) :=
 (m_internal_strconv_FormatInt i 10).bind fun y =>
 some y
def m_strconv_Itoa (i:Int):Option (List UInt8) :=
 (m_internal_strconv_Itoa i).bind fun y =>
 some y
def m_generations_Text (t:Aw):Option (List UInt8) :=
 ((m_lifelike_Right t).bind fun y =>
 (bif (bB y) then
  some true
 else
  some (ltB t.States 3))).bind fun a =>
 (bif a then
  some ([]:List UInt8)
 else
  (m_generations_Plain t).bind fun y =>
  (m_lifelike_Text y).bind fun y1 =>
  ((slcS y1 (bc .i64 (dQ y1) 1) (dQ y1)).bind fun s =>
  ((bif (eqS s ([86]:List UInt8)) then
   some true
  else
   some (eqS s ([72]:List UInt8)))).bind fun a1 =>
  (bif a1 then
   (slcS y1 0 (bc .i64 (dQ y1) 1)).bind fun s1 =>
   some (s1,s)
  else
   some (y1,([]:List UInt8)))).bind fun(s,end_) =>
  (catS s ([47,67]:List UInt8)).bind fun s1 =>
  (m_strconv_Itoa t.States).bind fun y2 =>
  (catS s1 y2).bind fun s2 =>
  (catS s2 end_).bind fun s3 =>
  some s3)
def m_notation_Canon (s:List UInt8):Option ((List UInt8)×Int) :=
 ((m_notation_Kind s).bind fun y =>
 (bif (eqB y 1) then
  (m_lifelike_Parse s).bind fun y1 =>
  (m_lifelike_Text y1.1).bind fun y2 =>
  some (y2,y1.2)
 else
  (bif (eqB y 2) then
   (m_generations_Parse s).bind fun y1 =>
   (m_generations_Text y1.1).bind fun y2 =>
   some (y2,y1.2)
  else
   ((bif (eqB y 3) then
    some (eqB y 3)
   else
    some (eqB y 4))).bind fun a =>
   (bif a then
    (m_wolfram_Parse s).bind fun y1 =>
    some (s,y1.2.2.2)
   else
    (bif (eqB y 5) then
     none
    else
     some (([]:List UInt8),7)))))).bind fun(out,e_) =>
 (bif (neB e_ 0) then
  some (([]:List UInt8),e_)
 else
  some (out,0))
def b_tree_Right_2 (t:Tree) (a1:Int) (x:Node) (stt:Int):Option (Lp (Int) (Bool ⊕ Unit)):=match stt with
 | a3 =>
  (bif (ltB a3 (aT x.Next)) then
   (idx x.Next a3).bind fun x1 =>
   ((bif (ltB x1 0) then
    some true
   else
    (bif (eqB x.Level 1) then
     (bif (geB x1 t.States) then
      some true
     else
      (bif (gtB x.Level 1) then
       (bif (geB x1 a1) then
        some true
       else
        (idx t.Nodes x1).bind fun x2 =>
        some (neB x2.Level (bc .i64 x.Level 1)))
      else
       some false))
    else
     (bif (gtB x.Level 1) then
      (bif (geB x1 a1) then
       some true
      else
       (idx t.Nodes x1).bind fun x2 =>
       some (neB x2.Level (bc .i64 x.Level 1)))
     else
      some false)))).bind fun a4 =>
   (bif a4 then
    some (.out (.inl false))
   else
    some (.next (bq .i64 a3 1)))
  else
   some (.out (.inr ())))
def b_tree_Right_1 (t:Tree) (stt:Int):Option (Lp (Int) (Bool ⊕ Unit)):=match stt with
 | a1 =>
  (bif (ltB a1 (aT t.Nodes)) then
   (idx t.Nodes a1).bind fun x =>
   ((bif (ltB x.Level 1) then
    some true
   else
    (bif (gtB x.Level (aT t.Hood)) then
     some true
    else
     some (neB (aT x.Next) t.States)))).bind fun a2 =>
   (bif a2 then
    some (.out (.inl false))
   else
    (aY (b_tree_Right_2 t a1 x) ba 0).bind fun o=>match o with
     | .inl r =>
      some (.out (.inl r))
     | .inr _u =>
      some (.next (bq .i64 a1 1)))
  else
   some (.out (.inr ())))
def m_tree_Right (t:Tree):Option (Bool) :=
 ((bif (ltB t.States 2) then
  some true
 else
  (bif (gtB t.States 8) then
   some true
  else
   (m_hood_Right t.Hood).bind fun y =>
   (bif (bB y) then
    some true
   else
    (bif (ltB (aT t.Nodes) 1) then
     some true
    else
     (bif (gtB (aT t.Nodes) 4096) then
      some true
     else
      (idx t.Nodes (bc .i64 (aT t.Nodes) 1)).bind fun x =>
      some (neB x.Level (aT t.Hood)))))))).bind fun a =>
 (bif a then
  some false
 else
  (aY (b_tree_Right_1 t) ba 0).bind fun o=>match o with
   | .inl r =>
    some r
   | .inr _u =>
    some true)
def m_tree_Eval_1 (s:Int) (a:Tree):Option (Bool) :=
 ((bif (ltB s 0) then
  some true
 else
  some (geB s a.States))).bind fun a1 =>
 some a1
def b_slices_IndexFunc_int_int_tree_Eval_1_1 (s:List Int) (cv:Tree) (stt:Int):Option (Lp (Int) (Int ⊕ Unit)):=match stt with
 | a =>
  (bif (ltB a (aT s)) then
   (idx s a).bind fun x =>
   (m_tree_Eval_1 x cv).bind fun y =>
   (bif y then
    some (.out (.inl a))
   else
    some (.next (bq .i64 a 1)))
  else
   some (.out (.inr ())))
def m_slices_IndexFunc_int_int_tree_Eval_1 (s:List Int) (cv:Tree):Option (Int) :=
 (aY (b_slices_IndexFunc_int_int_tree_Eval_1_1 s cv) ba 0).bind fun o=>match o with
  | .inl r =>
   some r
  | .inr _u =>
   some (-1)
def m_slices_ContainsFunc_int_int_tree_Eval_1 (s:List Int) (cv:Tree):Option (Bool) :=
 (m_slices_IndexFunc_int_int_tree_Eval_1 s cv).bind fun y =>
 some (geB y 0)
def b_tree_value_1 (t:Tree) (in_:List Int) (stt:Int×Int):Option (Lp (Int×Int) (Int)):=match stt with
 | (k,a) =>
  (bif (ltB a (aT in_)) then
   (idx in_ a).bind fun x =>
   (idx t.Nodes k).bind fun x1 =>
   (idx x1.Next x).bind fun x2 =>
   some (.next (x2,(bq .i64 a 1)))
  else
   some (.out k))
def m_tree_value (t:Tree) (in_:List Int):Option (Int) :=
 (aY (b_tree_value_1 t in_) ba ((bc .i64 (aT t.Nodes) 1),0)).bind fun k =>
 some k
def m_tree_Eval (t:Tree) (in_:List Int):Option (Int×Int) :=
 (m_tree_Right t).bind fun y =>
 (bif (bB y) then
  some (0,11)
 else
  (bif (neB (aT in_) (aT t.Hood)) then
   some (0,2)
  else
   (m_slices_ContainsFunc_int_int_tree_Eval_1 in_ t).bind fun y1 =>
   (bif y1 then
    some (0,10)
   else
    (m_tree_value t in_).bind fun y2 =>
    some (y2,0))))
def m_slices_Clone_int_int (l:List Int):Option (List Int):=appL 8 [] l
def m_reduce_Reduce_1 (_x:Int) (next:List Int):Option (List Int) :=
 some next
def m_internal_strconv_AppendInt_N (i base:Int):Option (List Int) :=
 ((bif (ltB i 0) then
  (appL 1 [] [45]).bind fun _l =>
  some ((da .u64 (eg .u64 i)),([]++[45]))
 else
  some ((eg .u64 i),[]))).bind fun(u,dst) =>
 (m_internal_strconv_AppendUint_o dst u base).bind fun y =>
 some y
def m_strconv_AppendInt_N (i base:Int):Option (List Int) :=
 (m_internal_strconv_AppendInt_N i base).bind fun y =>
 some y
def b_reduce_builder_node_o_1 (_aq:List Node) (_aa:List (List UInt8×Int)) (_level:Int) (next:List Int) (stt:Int×(List Int)):Option (Lp (Int×(List Int)) ((List Int))):=match stt with
 | (a,keyv) =>
  (bif (ltB a (aT next)) then
   (idx next a).bind fun x =>
   (appL 1 keyv [32]).bind fun _l =>
   (m_strconv_AppendInt_o (keyv++[32]) x 10).bind fun y1 =>
   some (.next ((bq .i64 a 1),y1))
  else
   some (.out keyv))
def m_reduce_builder_node_o (aq:List Node) (aa:List (List UInt8×Int)) (level:Int) (next:List Int):Option (Int×(List (List UInt8×Int))×(List Node)) :=
 (m_strconv_AppendInt_N level 10).bind fun y =>
 (aY (b_reduce_builder_node_o_1 aq aa level next) ba (0,y)).bind fun keyv =>
 (kckS (ofBytes keyv)).bind fun _u =>
 (bif (cb aa (ofBytes keyv)) then
  some ((ek aa (ofBytes keyv) 0),aa,aq)
 else
  (appL 32 aq [(⟨level,next⟩:Node)]).bind fun _l =>
  some ((bc .i64 ((aT aq)+1) 1),(dD aa (ofBytes keyv) (bc .i64 ((aT aq)+1) 1)),(aq++[(⟨level,next⟩:Node)])))
def b_reduce_ordered_1_o_o_o_o_1 (rcv:(Int->(List Int)->(List Node)->(List Node)->Option (Int×(List Int)×(List Node)))) (_k:Int) (a1:List Node) (x1:Node) (y:List Int) (stt:Int×(List Int)×(List Node)×(List Int)):Option (Lp (Int×(List Int)×(List Node)×(List Int)) (((List Int)×(List Node)×(List Int)))):=match stt with
 | (a2,l,l2,l1) =>
  (bif (ltB a2 (aT y)) then
   ((idx l a2).bind fun x2 =>
   (bif (gtB x1.Level 1) then
    (rcv x2 l1 a1 l2).bind fun y1 =>
    some ((l.set a2.toNat y1.1),y1.2.1,y1.2.2)
   else
    some (l,l1,l2))).bind fun(l3,l4,l5) =>
   some (.next ((bq .i64 a2 1),l3,l5,l4))
  else
   some (.out (l,l2,l1)))
def mb_reduce_ordered_1_o_o_o_o (rcv:(Int->(List Int)->(List Node)->(List Node)->Option (Int×(List Int)×(List Node)))) (k:Int) (a:List Int) (a1 cv:List Node):Option (Int×(List Int)×(List Node)) :=
 (idx a k).bind fun x =>
 (bif (gtB x 0) then
  some ((bc .i64 x 1),a,cv)
 else
  (idx a1 k).bind fun x1 =>
  (m_slices_Clone_int_int x1.Next).bind fun y =>
  (aY (b_reduce_ordered_1_o_o_o_o_1 rcv k a1 x1 y) ba (0,y,cv,a)).bind fun(l,l1,l2) =>
  (appL 32 l1 [(⟨x1.Level,l⟩:Node)]).bind fun _l3 =>
  (idx l2 k).bind fun _x2 =>
  some ((bc .i64 ((aT l1)+1) 1),(l2.set k.toNat ((aT l1)+1)),(l1++[(⟨x1.Level,l⟩:Node)])))
def m_reduce_ordered_1_o_o_o_o (k:Int) (a:List Int) (a1 cv:List Node):Option (Int×(List Int)×(List Node)):=fU mb_reduce_ordered_1_o_o_o_o (fun _ _ _ _=>none) fg k a a1 cv
def m_reduce_ordered (nodes:List Node) (root:Int):Option (List Node) :=
 (mkL 8 (aT nodes) (aT nodes) 0).bind fun _l =>
 (m_reduce_ordered_1_o_o_o_o root (List.replicate (aT nodes).toNat 0) nodes []).bind fun y =>
 some y.2.2
def b_reduce_rebuilt_reduce_Reduce_1_w_2 (_t:Tree) (_a:Int) (_mp:List (List UInt8×Int)) (_l:List Node) (to_:List Int) (x:Node) (y:List Int) (stt:Int×(List Int)):Option (Lp (Int×(List Int)) ((List Int))):=match stt with
 | (a1,next) =>
  (bif (ltB a1 (aT y)) then
   ((idx next a1).bind fun x1 =>
   (bif (gtB x.Level 1) then
    (idx to_ x1).bind fun x2 =>
    some (next.set a1.toNat x2)
   else
    some next)).bind fun next1 =>
   some (.next ((bq .i64 a1 1),next1))
  else
   some (.out next))
def b_reduce_rebuilt_reduce_Reduce_1_w_1 (t:Tree) (stt:Int×(List (List UInt8×Int))×(List Node)×(List Int)):Option (Lp (Int×(List (List UInt8×Int))×(List Node)×(List Int)) (((List (List UInt8×Int))×(List Node)×(List Int)))):=match stt with
 | (a,mp,l,to_) =>
  (bif (ltB a (aT t.Nodes)) then
   (idx t.Nodes a).bind fun x =>
   (m_slices_Clone_int_int x.Next).bind fun y =>
   (aY (b_reduce_rebuilt_reduce_Reduce_1_w_2 t a mp l to_ x y) ba (0,y)).bind fun next =>
   (m_reduce_Reduce_1 x.Level next).bind fun y1 =>
   (m_reduce_builder_node_o l mp x.Level y1).bind fun y2 =>
   (appL 8 to_ [y2.1]).bind fun _l1 =>
   some (.next ((bq .i64 a 1),y2.2.1,y2.2.2,(to_++[y2.1])))
  else
   some (.out (mp,l,to_)))
def m_reduce_rebuilt_reduce_Reduce_1_w (t:Tree):Option (List Node) :=
 (aY (b_reduce_rebuilt_reduce_Reduce_1_w_1 t) ba (0,[],[],[])).bind fun(_mp,l,to_) =>
 (m_slices_Clone_api_Point_api_Point t.Hood).bind fun _l1 =>
 (idx to_ (bc .i64 (aT to_) 1)).bind fun x =>
 (m_reduce_ordered l x).bind fun y =>
 some y
def m_reduce_Reduce_w (t:Tree):Option (Int×(List Node)×(List Point)) :=
 (m_tree_Right t).bind fun y =>
 (bif (bB y) then
  some (0,[],[])
 else
  (m_reduce_rebuilt_reduce_Reduce_1_w t).bind fun y1 =>
  some (t.States,y1,t.Hood))
def m_symmetry_Apply (k:Int) (p:Point):Option (Point) :=
 (fX 8 g1R (iand .i64 k 7)).bind fun x =>
 some (⟨(bq .i64 (imul .i64 x.1 p.X) (imul .i64 x.2.1 p.Y)),(bq .i64 (imul .i64 x.2.2.1 p.X) (imul .i64 x.2.2.2 p.Y))⟩:Point)
def b_reduce_builder_node_o_o_1 (_aq:List Node) (_aa:List (List UInt8×Int)) (_level:Int) (next:List Int) (stt:Int×(List Int)):Option (Lp (Int×(List Int)) ((List Int))):=match stt with
 | (a,keyv) =>
  (bif (ltB a (aT next)) then
   (idx next a).bind fun x =>
   (appL 1 keyv [32]).bind fun _l =>
   (m_strconv_AppendInt_o (keyv++[32]) x 10).bind fun y1 =>
   some (.next ((bq .i64 a 1),y1))
  else
   some (.out keyv))
def m_reduce_builder_node_o_o (aq:List Node) (aa:List (List UInt8×Int)) (level:Int) (next:List Int):Option (Int×(List (List UInt8×Int))×(List Node)) :=
 (m_strconv_AppendInt_N level 10).bind fun y =>
 (aY (b_reduce_builder_node_o_o_1 aq aa level next) ba (0,y)).bind fun keyv =>
 (kckS (ofBytes keyv)).bind fun _u =>
 (bif (cb aa (ofBytes keyv)) then
  some ((ek aa (ofBytes keyv) 0),aa,aq)
 else
  (appL 32 aq [(⟨level,next⟩:Node)]).bind fun _l =>
  some ((bc .i64 ((aT aq)+1) 1),(dD aa (ofBytes keyv) (bc .i64 ((aT aq)+1) 1)),(aq++[(⟨level,next⟩:Node)])))
def b_reduce_swapped_o_w_3 (_al:Int) (am:List Point) (ak:List Node) (i _a:Int) (to_:List Int) (x:Node) (a1:Int) (_mp1:List (List UInt8×Int)) (_next:List Int) (_l3:List Node) (stt:Int×(List Int)):Option (Lp (Int×(List Int)) ((List Int))):=match stt with
 | (a2,inner) =>
  (bif (ltB a2 (aT x.Next)) then
   ((idx x.Next a2).bind fun x2 =>
   (idx ak x2).bind fun x3 =>
   (idx x3.Next a1).bind fun x4 =>
   (idx inner a2).bind fun _x5 =>
   (bif (gtB (bc .i64 (aT am) i) 2) then
    (idx (inner.set a2.toNat x4) a2).bind fun x6 =>
    (idx to_ x6).bind fun x7 =>
    some ((inner.set a2.toNat x4).set a2.toNat x7)
   else
    some (inner.set a2.toNat x4))).bind fun inner1 =>
   some (.next ((bq .i64 a2 1),inner1))
  else
   some (.out inner))
def b_reduce_swapped_o_w_2 (al:Int) (am:List Point) (ak:List Node) (i a:Int) (to_:List Int) (x:Node) (stt:Int×(List (List UInt8×Int))×(List Int)×(List Node)):Option (Lp (Int×(List (List UInt8×Int))×(List Int)×(List Node)) (((List (List UInt8×Int))×(List Int)×(List Node)))):=match stt with
 | (a1,mp1,next,l3) =>
  (bif (ltB a1 (aT x.Next)) then
   (idx x.Next a1).bind fun x1 =>
   (bif (eqB x.Level (bc .i64 (aT am) i)) then
    (mkL 8 al al 0).bind fun _l4 =>
    (aY (b_reduce_swapped_o_w_3 al am ak i a to_ x a1 mp1 next l3) ba (0,(List.replicate al.toNat 0))).bind fun inner =>
    (m_reduce_builder_node_o_o l3 mp1 (bc .i64 (bc .i64 (aT am) i) 1) inner).bind fun y =>
    (idx next a1).bind fun _x2 =>
    some (.next ((bq .i64 a1 1),y.2.1,(next.set a1.toNat y.1),y.2.2))
   else
    (bif (gtB x.Level 1) then
     (idx to_ x1).bind fun x2 =>
     (idx next a1).bind fun _x3 =>
     some (.next ((bq .i64 a1 1),mp1,(next.set a1.toNat x2),l3))
    else
     (idx next a1).bind fun _x2 =>
     some (.next ((bq .i64 a1 1),mp1,(next.set a1.toNat x1),l3))))
  else
   some (.out (mp1,next,l3)))
def b_reduce_swapped_o_w_1 (al:Int) (am:List Point) (ak:List Node) (i:Int) (stt:Int×(List (List UInt8×Int))×(List Int)×(List Node)):Option (Lp (Int×(List (List UInt8×Int))×(List Int)×(List Node)) (((List (List UInt8×Int))×(List Int)×(List Node)))):=match stt with
 | (a,mp,to_,l1) =>
  (bif (ltB a (aT ak)) then
   (idx ak a).bind fun x =>
   (bif (eqB x.Level (bc .i64 (bc .i64 (aT am) i) 1)) then
    some (.next ((bq .i64 a 1),mp,to_,l1))
   else
    (mkL 8 al al 0).bind fun _l2 =>
    (aY (b_reduce_swapped_o_w_2 al am ak i a to_ x) ba (0,mp,(List.replicate al.toNat 0),l1)).bind fun(mp1,next,l3) =>
    (m_reduce_builder_node_o_o l3 mp1 x.Level next).bind fun y =>
    (idx to_ a).bind fun _x1 =>
    some (.next ((bq .i64 a 1),y.2.1,(to_.set a.toNat y.1),y.2.2)))
  else
   some (.out (mp,to_,l1)))
def m_reduce_swapped_o_w (al:Int) (am:List Point) (ak:List Node) (i:Int):Option (List Node) :=
 (mkL 8 (aT ak) (aT ak) 0).bind fun _l =>
 (aY (b_reduce_swapped_o_w_1 al am ak i) ba (0,[],(List.replicate (aT ak).toNat 0),[])).bind fun(_mp,to_,l1) =>
 (idx to_ (bc .i64 (aT to_) 1)).bind fun x =>
 (m_reduce_ordered l1 x).bind fun y =>
 some y
def m_reduce_sized (t:Tree):Option (Tree×Int) :=
 (bif (gtB (aT t.Nodes) 4096) then
  some ((⟨0,[],[]⟩:Tree),6)
 else
  some (t,0))
def b_reduce_Turn_1 (k:Int) (y1:Int×(List Node)×(List Point)) (stt:Int×(List Point)):Option (Lp (Int×(List Point)) ((List Point))):=match stt with
 | (a,l) =>
  (bif (ltB a (aT y1.2.2)) then
   (idx l a).bind fun x =>
   (m_symmetry_Apply k x).bind fun y2 =>
   some (.next ((bq .i64 a 1),(l.set a.toNat y2)))
  else
   some (.out l))
def b_reduce_Turn_3 (y1:Int×(List Node)×(List Point)) (stt:Bool×Int×(List Node)×(List Point)):Option (Lp (Bool×Int×(List Node)×(List Point)) ((Bool×(List Node)×(List Point)))):=match stt with
 | (aE,i,aD,l2) =>
  (bif (ltB i (aT l2)) then
   ((idx l2 (bc .i64 i 1)).bind fun x =>
   (idx l2 i).bind fun x1 =>
   (m_point_Compare x x1).bind fun y2 =>
   (bif (gtB y2 0) then
    (m_reduce_swapped_o_w y1.1 l2 aD (bc .i64 i 1)).bind fun y3 =>
    (idx (l2.set (bc .i64 i 1).toNat x1) i).bind fun _x2 =>
    some (false,y3,((l2.set (bc .i64 i 1).toNat x1).set i.toNat x))
   else
    some (aE,aD,l2))).bind fun(sorted2,uNodes2,l3) =>
   some (.next (sorted2,(bq .i64 i 1),uNodes2,l3))
  else
   some (.out (aE,aD,l2)))
def b_reduce_Turn_2 (y1:Int×(List Node)×(List Point)) (stt:Bool×(List Node)×(List Point)):Option (Lp (Bool×(List Node)×(List Point)) (((List Node)×(List Point)))):=match stt with
 | (sorted,aJ,l1) =>
  (bif (bB sorted) then
   (aY (b_reduce_Turn_3 y1) ba (true,1,aJ,l1)).bind fun(aE,aD,l2) =>
   some (.next (aE,aD,l2))
  else
   some (.out (aJ,l1)))
def m_reduce_Turn (k:Int) (t:Tree):Option (Tree×Int) :=
 (m_tree_Right t).bind fun y =>
 (bif (bB y) then
  some ((⟨0,[],[]⟩:Tree),11)
 else
  (m_reduce_Reduce_w t).bind fun y1 =>
  (aY (b_reduce_Turn_1 k y1) ba (0,y1.2.2)).bind fun l =>
  (aY (b_reduce_Turn_2 y1) ba (false,y1.2.1,l)).bind fun(aJ,l1) =>
  (m_reduce_sized (⟨y1.1,l1,aJ⟩:Tree)).bind fun y2 =>
  some (y2.1,y2.2))
def b_reduce_rebuilt_reduce_Reduce_1_2 (_t:Tree) (_a:Int) (_mp:List (List UInt8×Int)) (_l:List Node) (to_:List Int) (x:Node) (y:List Int) (stt:Int×(List Int)):Option (Lp (Int×(List Int)) ((List Int))):=match stt with
 | (a1,next) =>
  (bif (ltB a1 (aT y)) then
   ((idx next a1).bind fun x1 =>
   (bif (gtB x.Level 1) then
    (idx to_ x1).bind fun x2 =>
    some (next.set a1.toNat x2)
   else
    some next)).bind fun next1 =>
   some (.next ((bq .i64 a1 1),next1))
  else
   some (.out next))
def b_reduce_rebuilt_reduce_Reduce_1_1 (t:Tree) (stt:Int×(List (List UInt8×Int))×(List Node)×(List Int)):Option (Lp (Int×(List (List UInt8×Int))×(List Node)×(List Int)) (((List (List UInt8×Int))×(List Node)×(List Int)))):=match stt with
 | (a,mp,l,to_) =>
  (bif (ltB a (aT t.Nodes)) then
   (idx t.Nodes a).bind fun x =>
   (m_slices_Clone_int_int x.Next).bind fun y =>
   (aY (b_reduce_rebuilt_reduce_Reduce_1_2 t a mp l to_ x y) ba (0,y)).bind fun next =>
   (m_reduce_Reduce_1 x.Level next).bind fun y1 =>
   (m_reduce_builder_node_o l mp x.Level y1).bind fun y2 =>
   (appL 8 to_ [y2.1]).bind fun _l1 =>
   some (.next ((bq .i64 a 1),y2.2.1,y2.2.2,(to_++[y2.1])))
  else
   some (.out (mp,l,to_)))
def m_reduce_rebuilt_reduce_Reduce_1 (t:Tree):Option (Tree) :=
 (aY (b_reduce_rebuilt_reduce_Reduce_1_1 t) ba (0,[],[],[])).bind fun(_mp,l,to_) =>
 (m_slices_Clone_api_Point_api_Point t.Hood).bind fun y =>
 (idx to_ (bc .i64 (aT to_) 1)).bind fun x =>
 (m_reduce_ordered l x).bind fun y1 =>
 some (⟨t.States,y,y1⟩:Tree)
def m_reduce_Reduce (t:Tree):Option (Tree) :=
 (m_tree_Right t).bind fun y =>
 (bif (bB y) then
  some (⟨0,[],[]⟩:Tree)
 else
  (m_reduce_rebuilt_reduce_Reduce_1 t).bind fun y1 =>
  some y1)
def b_slices_Equal_int_int_1 (sv1 sv2:List Int) (stt:Int):Option (Lp (Int) (Bool ⊕ Unit)):=match stt with
 | a =>
  (bif (ltB a (aT sv1)) then
   (idx sv1 a).bind fun x =>
   (idx sv2 a).bind fun x1 =>
   (bif (neB x x1) then
    some (.out (.inl false))
   else
    some (.next (bq .i64 a 1)))
  else
   some (.out (.inr ())))
def m_slices_Equal_int_int (sv1 sv2:List Int):Option (Bool) :=
 (bif (neB (aT sv1) (aT sv2)) then
  some false
 else
  (aY (b_slices_Equal_int_int_1 sv1 sv2) ba 0).bind fun o=>match o with
   | .inl r =>
    some r
   | .inr _u =>
    some true)
def m_tree_Same_1 (x y:Node):Option (Bool) :=
 ((bif (eqB x.Level y.Level) then
  (m_slices_Equal_int_int x.Next y.Next).bind fun y1 =>
  some y1
 else
  some false)).bind fun a =>
 some a
def b_slices_EqualFunc_api_Node_api_Node_api_Node_api_Node_tree_Same_1_1 (sv1 sv2:List Node) (stt:Int):Option (Lp (Int) (Bool ⊕ Unit)):=match stt with
 | a =>
  (bif (ltB a (aT sv1)) then
   (idx sv1 a).bind fun x =>
   (idx sv2 a).bind fun x1 =>
   (m_tree_Same_1 x x1).bind fun y =>
   (bif (bB y) then
    some (.out (.inl false))
   else
    some (.next (bq .i64 a 1)))
  else
   some (.out (.inr ())))
def m_slices_EqualFunc_api_Node_api_Node_api_Node_api_Node_tree_Same_1 (sv1 sv2:List Node):Option (Bool) :=
 (bif (neB (aT sv1) (aT sv2)) then
  some false
 else
  (aY (b_slices_EqualFunc_api_Node_api_Node_api_Node_api_Node_tree_Same_1_1 sv1 sv2) ba 0).bind fun o=>match o with
   | .inl r =>
    some r
   | .inr _u =>
    some true)
def m_tree_Same (a b:Tree):Option (Bool) :=
 ((bif (eqB a.States b.States) then
  (m_hood_Same a.Hood b.Hood).bind fun y =>
  (bif y then
   (m_slices_EqualFunc_api_Node_api_Node_api_Node_api_Node_tree_Same_1 a.Nodes b.Nodes).bind fun y1 =>
   some y1
  else
   some false)
 else
  some false)).bind fun a1 =>
 some a1
def m_reduce_Equal (a b:Tree):Option (Bool) :=
 ((m_tree_Right a).bind fun y =>
 (bif y then
  (m_tree_Right b).bind fun y1 =>
  (bif y1 then
   (bif (eqB a.States b.States) then
    (m_hood_Same a.Hood b.Hood).bind fun y2 =>
    (bif y2 then
     (m_reduce_Reduce a).bind fun y3 =>
     (m_reduce_Reduce b).bind fun y4 =>
     (m_tree_Same y3 y4).bind fun y5 =>
     some y5
    else
     some false)
   else
    some false)
  else
   some false)
 else
  some false)).bind fun a1 =>
 some a1
def b_notation_Syms_1 (t:Tree) (stt:Int×(List Int)):Option (Lp (Int×(List Int)) ((List Int))):=match stt with
 | (a,out) =>
  (bif (ltB a 8) then
   ((m_reduce_Turn a t).bind fun y =>
   ((bif (eqB y.2 0) then
    (m_reduce_Equal t y.1).bind fun y1 =>
    some y1
   else
    some false)).bind fun a1 =>
   (bif a1 then
    (appL 8 out [a]).bind fun _l =>
    some (out++[a])
   else
    some out)).bind fun out1 =>
   some (.next ((bq .i64 a 1),out1))
  else
   some (.out out))
def m_notation_Syms (t:Tree):Option (List Int) :=
 (aY (b_notation_Syms_1 t) ba (0,[])).bind fun out =>
 some out
def b_L12_Ints_1 (a b:List Int) (stt:Int):Option (Lp (Int) (Bool ⊕ Unit)):=match stt with
 | a1 =>
  (bif (ltB a1 (aT a)) then
   (idx a a1).bind fun x =>
   (idx b a1).bind fun x1 =>
   (bif (neB x x1) then
    some (.out (.inl false))
   else
    some (.next (bq .i64 a1 1)))
  else
   some (.out (.inr ())))
def m_L12_Ints (a b:List Int):Option (Bool) :=
 (bif (neB (aT a) (aT b)) then
  some false
 else
  (aY (b_L12_Ints_1 a b) ba 0).bind fun o=>match o with
   | .inl r =>
    some r
   | .inr _u =>
    some true)
def m_L16_awake:Option (Bool) :=
 (m_notation_Parse ([66,51,47,83,50,51]:List UInt8)).bind fun y =>
 (m_notation_Parse ([66,50,47,83,51,52,72]:List UInt8)).bind fun y1 =>
 (m_notation_Parse ([87,49,49,48]:List UInt8)).bind fun y2 =>
 (m_notation_Parse ([66,57,47,83]:List UInt8)).bind fun y3 =>
 (m_notation_Parse ([108,105,102,101]:List UInt8)).bind fun y4 =>
 (m_notation_Canon ([47,50,47,51]:List UInt8)).bind fun y5 =>
 (m_tree_Eval y.1 [1,1,1,0,0,0,0,0,0]).bind fun y6 =>
 ((bif (neB y.2 0) then
  some true
 else
  (bif (neB y1.2 0) then
   some true
  else
   (bif (neB y2.2 0) then
    some true
   else
    (bif (neB y3.2 5) then
     some true
    else
     (bif (neB y4.2 7) then
      some true
     else
      (bif (neB y5.2 0) then
       some true
      else
       (bif (neB y6.2 0) then
        some true
       else
        (bif (neB y6.1 1) then
         some true
        else
         some (bB (eqS y5.1 ([66,50,47,83,47,67,51]:List UInt8)))))))))))).bind fun a =>
 (bif a then
  some false
 else
  ((m_notation_Kind ([66,51,47,83,50,51]:List UInt8)).bind fun y7 =>
  (bif (eqB y7 1) then
   (m_notation_Kind ([47,50,47,51]:List UInt8)).bind fun y8 =>
   (bif (eqB y8 2) then
    (m_notation_Kind ([87,51,48]:List UInt8)).bind fun y9 =>
    (bif (eqB y9 3) then
     (m_notation_Kind ([84,55,55,55,47,51]:List UInt8)).bind fun y10 =>
     (bif (eqB y10 4) then
      (m_notation_Kind ([98,51,47,115,50,51]:List UInt8)).bind fun y11 =>
      (bif (eqB y11 0) then
       (m_notation_Kind ([120,10]:List UInt8)).bind fun y12 =>
       (bif (eqB y12 5) then
        (m_notation_Syms y.1).bind fun y13 =>
        (bif (eqB (aT y13) 8) then
         (m_notation_Syms y1.1).bind fun y14 =>
         (m_L12_Ints y14 [0,2,5,7]).bind fun y15 =>
         (bif y15 then
          (m_notation_Syms y2.1).bind fun y16 =>
          (m_L12_Ints y16 [0,6]).bind fun y17 =>
          some y17
         else
          some false)
        else
         some false)
       else
        some false)
      else
       some false)
     else
      some false)
    else
     some false)
   else
    some false)
  else
   some false)).bind fun a1 =>
  some a1)
def m_R07_before (a b:Point):Option (Bool) :=
 ((bif (ltB a.Y b.Y) then
  some true
 else
  (bif (eqB a.Y b.Y) then
   some (ltB a.X b.X)
  else
   some false))).bind fun a1 =>
 some a1
def b_R07_Right_1 (l:List Point) (stt:Int):Option (Lp (Int) (Bool ⊕ Unit)):=match stt with
 | i =>
  (bif (ltB i (aT l)) then
   (idx l i).bind fun x =>
   ((bif (ltB x.X (-2)) then
    some true
   else
    (bif (gtB x.X 2) then
     some true
    else
     (bif (ltB x.Y (-2)) then
      some true
     else
      (bif (gtB x.Y 2) then
       some true
      else
       (bif (gtB i 0) then
        (idx l (bc .i64 i 1)).bind fun x1 =>
        (m_R07_before x1 x).bind fun y =>
        some (bB y)
       else
        some false)))))).bind fun a1 =>
   (bif a1 then
    some (.out (.inl false))
   else
    some (.next (bq .i64 i 1)))
  else
   some (.out (.inr ())))
def m_R07_Right (l:List Point):Option (Bool) :=
 ((bif (ltB (aT l) 1) then
  some true
 else
  some (gtB (aT l) 25))).bind fun a =>
 (bif a then
  some false
 else
  (aY (b_R07_Right_1 l) ba 0).bind fun o=>match o with
   | .inl r =>
    some r
   | .inr _u =>
    some true)
def b_R12_Right_2 (t:Tree) (i:Int) (x:Node) (stt:Int):Option (Lp (Int) (Bool ⊕ Unit)):=match stt with
 | s =>
  (bif (ltB s t.States) then
   (idx x.Next s).bind fun x1 =>
   (bif (ltB x1 0) then
    some (.out (.inl false))
   else
    ((bif (eqB x.Level 1) then
     some (geB x1 t.States)
    else
     some false)).bind fun a2 =>
    (bif a2 then
     some (.out (.inl false))
    else
     ((bif (gtB x.Level 1) then
      (bif (geB x1 i) then
       some true
      else
       (idx t.Nodes x1).bind fun x2 =>
       some (neB x2.Level (bc .i64 x.Level 1)))
     else
      some false)).bind fun a3 =>
     (bif a3 then
      some (.out (.inl false))
     else
      some (.next (bq .i64 s 1)))))
  else
   some (.out (.inr ())))
def b_R12_Right_1 (t:Tree) (stt:Int):Option (Lp (Int) (Bool ⊕ Unit)):=match stt with
 | i =>
  (bif (ltB i (aT t.Nodes)) then
   (idx t.Nodes i).bind fun x =>
   ((bif (ltB x.Level 1) then
    some true
   else
    (bif (gtB x.Level (aT t.Hood)) then
     some true
    else
     some (neB (aT x.Next) t.States)))).bind fun a1 =>
   (bif a1 then
    some (.out (.inl false))
   else
    (aY (b_R12_Right_2 t i x) ba 0).bind fun o=>match o with
     | .inl r =>
      some (.out (.inl r))
     | .inr _u =>
      some (.next (bq .i64 i 1)))
  else
   some (.out (.inr ())))
def m_R12_Right (t:Tree):Option (Bool) :=
 ((bif (ltB t.States 2) then
  some true
 else
  (bif (gtB t.States 8) then
   some true
  else
   (m_R07_Right t.Hood).bind fun y =>
   (bif (bB y) then
    some true
   else
    (bif (ltB (aT t.Nodes) 1) then
     some true
    else
     some (gtB (aT t.Nodes) 4096)))))).bind fun a =>
 (bif a then
  some false
 else
  (aY (b_R12_Right_1 t) ba 0).bind fun o=>match o with
   | .inl r =>
    some r
   | .inr _u =>
    (idx t.Nodes (bc .i64 (aT t.Nodes) 1)).bind fun x =>
    some (eqB x.Level (aT t.Hood)))
def m_R04_Mod (k:Int):Option (Int) :=
 (irem k 8).bind fun n =>
 (irem (bq .i64 n 8) 8).bind fun n1 =>
 some n1
def b_R04_Apply_1 (k1:Int) (stt:Int×Int×Int):Option (Lp (Int×Int×Int) ((Int×Int))):=match stt with
 | (i,pX1,pY) =>
  (bif (ltB i k1) then
   some (.next ((bq .i64 i 1),(da .i64 pY),pX1))
  else
   some (.out (pX1,pY)))
def m_R04_Apply (k:Int) (p:Point):Option (Point) :=
 (m_R04_Mod k).bind fun y =>
 ((bif (geB y 4) then
  some ((bc .i64 y 4),(da .i64 p.X))
 else
  some (y,p.X))).bind fun(k1,pX) =>
 (aY (b_R04_Apply_1 k1) ba (0,pX,p.Y)).bind fun(pX1,pY) =>
 some (⟨pX1,pY⟩:Point)
def m_R03_Compare (a b:Point):Option (Int) :=
 ((bif (ltB a.Y b.Y) then
  some true
 else
  (bif (eqB a.Y b.Y) then
   some (ltB a.X b.X)
  else
   some false))).bind fun a1 =>
 (bif a1 then
  some (-1)
 else
  (bif (gK (eqB a.X b.X) (gK (eqB a.Y b.Y) true)) then
   some 0
  else
   some 1))
def b_R03_Sort_2 (l:List Point) (i:Int) (out:List Point) (stt:Int×(List Point)):Option (Lp (Int×(List Point)) ((Int×(List Point)))):=match stt with
 | (k,next) =>
  ((bif (ltB k (aT out)) then
   (idx out k).bind fun x =>
   (idx l i).bind fun x1 =>
   (m_R03_Compare x x1).bind fun y =>
   some (ltB y 0)
  else
   some false)).bind fun a =>
  (bif a then
   (idx out k).bind fun x =>
   (appL 16 next [x]).bind fun _l1 =>
   some (.next ((bq .i64 k 1),(next++[x])))
  else
   some (.out (k,next)))
def b_R03_Sort_3 (_l:List Point) (_i:Int) (out _next:List Point) (stt:Int×(List Point)):Option (Lp (Int×(List Point)) ((List Point))):=match stt with
 | (k1,aM) =>
  (bif (ltB k1 (aT out)) then
   (idx out k1).bind fun x =>
   (appL 16 aM [x]).bind fun _l1 =>
   some (.next ((bq .i64 k1 1),(aM++[x])))
  else
   some (.out aM))
def b_R03_Sort_1 (l:List Point) (stt:Int×(List Point)):Option (Lp (Int×(List Point)) ((List Point))):=match stt with
 | (i,out) =>
  (bif (ltB i (aT l)) then
   (aY (b_R03_Sort_2 l i out) ba (0,[])).bind fun(k,next) =>
   (((bif (eqB k (aT out)) then
    some true
   else
    (idx out k).bind fun x =>
    (idx l i).bind fun x1 =>
    (m_R03_Compare x x1).bind fun y =>
    some (neB y 0))).bind fun a =>
   (bif a then
    (idx l i).bind fun x =>
    (appL 16 next [x]).bind fun _l1 =>
    some (next++[x])
   else
    some next)).bind fun next1 =>
   (aY (b_R03_Sort_3 l i out next) ba (k,next1)).bind fun aM =>
   some (.next ((bq .i64 i 1),aM))
  else
   some (.out out))
def m_R03_Sort (l:List Point):Option (List Point) :=
 (aY (b_R03_Sort_1 l) ba (0,[])).bind fun out =>
 some out
def b_R13_same_1 (a b:List Int) (stt:Int):Option (Lp (Int) (Bool ⊕ Unit)):=match stt with
 | i =>
  (bif (ltB i (aT a)) then
   (idx a i).bind fun x =>
   (idx b i).bind fun x1 =>
   (bif (neB x x1) then
    some (.out (.inl false))
   else
    some (.next (bq .i64 i 1)))
  else
   some (.out (.inr ())))
def m_R13_same (a b:List Int):Option (Bool) :=
 (bif (neB (aT a) (aT b)) then
  some false
 else
  (aY (b_R13_same_1 a b) ba 0).bind fun o=>match o with
   | .inl r =>
    some r
   | .inr _u =>
    some true)
def b_R13_classes_2 (l:List Node) (i:Int) (ab:List Int) (_nexts:List (List Int)) (stt:Int×(List Int)):Option (Lp (Int×(List Int)) ((List Int))):=match stt with
 | (s,next) =>
  (idx l i).bind fun x =>
  (bif (ltB s (aT x.Next)) then
   (idx x.Next s).bind fun x1 =>
   ((bif (gtB x.Level 1) then
    (idx ab x1).bind fun x2 =>
    some x2
   else
    some x1)).bind fun k =>
   (appL 8 next [k]).bind fun _l1 =>
   some (.next ((bq .i64 s 1),(next++[k])))
  else
   some (.out next))
def b_R13_classes_3 (l:List Node) (i:Int) (_ab:List Int) (nexts:List (List Int)) (next:List Int) (stt:Int×Int):Option (Lp (Int×Int) (Int)):=match stt with
 | (first,jv) =>
  (bif (geB jv 0) then
   (((idx l jv).bind fun x =>
   (idx l i).bind fun x1 =>
   (bif (eqB x.Level x1.Level) then
    (idx nexts jv).bind fun x2 =>
    (m_R13_same x2 next).bind fun y =>
    some y
   else
    some false)).bind fun a =>
   (bif a then
    some jv
   else
    some first)).bind fun first1 =>
   some (.next (first1,(bc .i64 jv 1)))
  else
   some (.out first))
def b_R13_classes_1 (l:List Node) (stt:Int×(List Int)×(List (List Int))):Option (Lp (Int×(List Int)×(List (List Int))) ((List Int))):=match stt with
 | (i,ab,nexts) =>
  (bif (ltB i (aT l)) then
   (aY (b_R13_classes_2 l i ab nexts) ba (0,[])).bind fun next =>
   (aY (b_R13_classes_3 l i ab nexts next) ba (i,(bc .i64 i 1))).bind fun first =>
   (appL 8 ab [first]).bind fun _l1 =>
   (appL 24 nexts [next]).bind fun _l2 =>
   some (.next ((bq .i64 i 1),(ab++[first]),(nexts++[next])))
  else
   some (.out ab))
def m_R13_classes (l:List Node):Option (List Int) :=
 (aY (b_R13_classes_1 l) ba (0,[],[])).bind fun ab =>
 some ab
def b_R13_walk_o_o_1 (rcv:((List Node)->(List Int)->Int->(List Int)->(List Node)->Option ((List Int)×(List Node)))) (l:List Node) (ab:List Int) (i:Int) (_out:List Node) (x1:Node) (stt:Int×(List Int)×(List Node)×(List Int)):Option (Lp (Int×(List Int)×(List Node)×(List Int)) (((List Int)×(List Node)×(List Int)))):=match stt with
 | (s,l1,out1,aA) =>
  (idx l i).bind fun x2 =>
  (bif (ltB s (aT x2.Next)) then
   (idx x2.Next s).bind fun x3 =>
   ((bif (gtB x1.Level 1) then
    (idx ab x3).bind fun x4 =>
    (rcv l ab x4 aA out1).bind fun y =>
    (idx y.1 x4).bind fun x5 =>
    some (x5,y.2,y.1)
   else
    some (x3,out1,aA))).bind fun(k,out2,aP) =>
   (appL 8 l1 [k]).bind fun _l2 =>
   some (.next ((bq .i64 s 1),(l1++[k]),out2,aP))
  else
   some (.out (l1,out1,aA)))
def mb_R13_walk_o_o (rcv:((List Node)->(List Int)->Int->(List Int)->(List Node)->Option ((List Int)×(List Node)))) (l:List Node) (ab:List Int) (i:Int) (done:List Int) (out:List Node):Option ((List Int)×(List Node)) :=
 (idx done i).bind fun x =>
 (bif (geB x 0) then
  some (done,out)
 else
  (idx l i).bind fun x1 =>
  (aY (b_R13_walk_o_o_1 rcv l ab i out x1) ba (0,[],out,done)).bind fun(l1,out1,aA) =>
  (idx aA i).bind fun _x2 =>
  (appL 32 out1 [(⟨x1.Level,l1⟩:Node)]).bind fun _l2 =>
  some ((aA.set i.toNat (aT out1)),(out1++[(⟨x1.Level,l1⟩:Node)])))
def m_R13_walk_o_o (l:List Node) (ab:List Int) (i:Int) (done:List Int) (out:List Node):Option ((List Int)×(List Node)):=fU mb_R13_walk_o_o (fun _ _ _ _ _=>none) fg l ab i done out
def b_R13_walk_o_N_1 (l:List Node) (ab:List Int) (i:Int) (x1:Node) (stt:Int×(List Int)×(List Node)×(List Int)):Option (Lp (Int×(List Int)×(List Node)×(List Int)) (((List Int)×(List Node)×(List Int)))):=match stt with
 | (s,l1,out,aA) =>
  (idx l i).bind fun x2 =>
  (bif (ltB s (aT x2.Next)) then
   (idx x2.Next s).bind fun x3 =>
   ((bif (gtB x1.Level 1) then
    (idx ab x3).bind fun x4 =>
    (m_R13_walk_o_o l ab x4 aA out).bind fun y =>
    (idx y.1 x4).bind fun x5 =>
    some (x5,y.2,y.1)
   else
    some (x3,out,aA))).bind fun(k,out1,aP) =>
   (appL 8 l1 [k]).bind fun _l2 =>
   some (.next ((bq .i64 s 1),(l1++[k]),out1,aP))
  else
   some (.out (l1,out,aA)))
def mb_R13_walk_o_N (_rcv:((List Node)->(List Int)->Int->(List Int)->Option ((List Int)×(List Node)))) (l:List Node) (ab:List Int) (i:Int) (done:List Int):Option ((List Int)×(List Node)) :=
 (idx done i).bind fun x =>
 (bif (geB x 0) then
  some (done,[])
 else
  (idx l i).bind fun x1 =>
  (aY (b_R13_walk_o_N_1 l ab i x1) ba (0,[],[],done)).bind fun(l1,out,aA) =>
  (idx aA i).bind fun _x2 =>
  (appL 32 out [(⟨x1.Level,l1⟩:Node)]).bind fun _l2 =>
  some ((aA.set i.toNat (aT out)),(out++[(⟨x1.Level,l1⟩:Node)])))
def m_R13_walk_o_N (l:List Node) (ab:List Int) (i:Int) (done:List Int):Option ((List Int)×(List Node)):=fU mb_R13_walk_o_N (fun _ _ _ _=>none) fg l ab i done
def b_R13_reduced_1 (l:List Node) (_y:List Int) (stt:Int×(List Int)):Option (Lp (Int×(List Int)) ((List Int))):=match stt with
 | (i,done) =>
  (bif (ltB i (aT l)) then
   (appL 8 done [(-1)]).bind fun _l1 =>
   some (.next ((bq .i64 i 1),(done++[(-1)])))
  else
   some (.out done))
def m_R13_reduced (l:List Node):Option (List Node) :=
 (m_R13_classes l).bind fun y =>
 (aY (b_R13_reduced_1 l y) ba (0,[])).bind fun done =>
 (idx y (bc .i64 (aT l) 1)).bind fun x =>
 (m_R13_walk_o_N l y x done).bind fun y1 =>
 some y1.2
def m_R13_Reduce (t:Tree):Option (Tree) :=
 (m_R12_Right t).bind fun y =>
 (bif (bB y) then
  some (⟨0,[],[]⟩:Tree)
 else
  (m_R13_reduced t.Nodes).bind fun y1 =>
  some (⟨t.States,t.Hood,y1⟩:Tree))
def b_R12_Value_1 (t:Tree) (in_:List Int) (stt:Int×Int):Option (Lp (Int×Int) (Int)):=match stt with
 | (k,i) =>
  (bif (ltB i (aT in_)) then
   (idx t.Nodes k).bind fun x =>
   (idx in_ i).bind fun x1 =>
   (idx x.Next x1).bind fun x2 =>
   some (.next (x2,(bq .i64 i 1)))
  else
   some (.out k))
def m_R12_Value (t:Tree) (in_:List Int):Option (Int) :=
 (aY (b_R12_Value_1 t in_) ba ((bc .i64 (aT t.Nodes) 1),0)).bind fun k =>
 some k
def b_R13_Fix_2 (t:Tree) (k s i:Int) (_l:List Node) (x:Node) (stt:Int×(List Int)):Option (Lp (Int×(List Int)) ((List Int))):=match stt with
 | (jv,l1) =>
  (bif (ltB jv t.States) then
   ((bif (eqB x.Level (bc .i64 (aT t.Hood) k)) then
    (idx t.Nodes i).bind fun x1 =>
    (idx x1.Next s).bind fun x2 =>
    (appL 8 l1 [x2]).bind fun _l2 =>
    some (l1++[x2])
   else
    (idx t.Nodes i).bind fun x1 =>
    (idx x1.Next jv).bind fun x2 =>
    (appL 8 l1 [x2]).bind fun _l2 =>
    some (l1++[x2]))).bind fun l2 =>
   some (.next ((bq .i64 jv 1),l2))
  else
   some (.out l1))
def b_R13_Fix_1 (t:Tree) (k s:Int) (stt:Int×(List Node)):Option (Lp (Int×(List Node)) ((List Node))):=match stt with
 | (i,l) =>
  (bif (ltB i (aT t.Nodes)) then
   (idx t.Nodes i).bind fun x =>
   (aY (b_R13_Fix_2 t k s i l x) ba (0,[])).bind fun l1 =>
   (appL 32 l [(⟨x.Level,l1⟩:Node)]).bind fun _l2 =>
   some (.next ((bq .i64 i 1),(l++[(⟨x.Level,l1⟩:Node)])))
  else
   some (.out l))
def m_R13_Fix (t:Tree) (k s:Int):Option (Tree×Int) :=
 (m_R12_Right t).bind fun y =>
 (bif (bB y) then
  some ((⟨0,[],[]⟩:Tree),11)
 else
  ((bif (ltB k 0) then
   some true
  else
   some (geB k (aT t.Hood)))).bind fun a =>
  (bif a then
   some ((⟨0,[],[]⟩:Tree),2)
  else
   ((bif (ltB s 0) then
    some true
   else
    some (geB s t.States))).bind fun a1 =>
   (bif a1 then
    some ((⟨0,[],[]⟩:Tree),10)
   else
    (aY (b_R13_Fix_1 t k s) ba (0,[])).bind fun l =>
    (m_R13_Reduce (⟨t.States,t.Hood,l⟩:Tree)).bind fun y1 =>
    some (y1,0))))
def b_R12_Same_1 (a b:Tree) (stt:Int):Option (Lp (Int) (Bool ⊕ Unit)):=match stt with
 | i =>
  (bif (ltB i (aT a.Hood)) then
   (idx a.Hood i).bind fun x =>
   (idx b.Hood i).bind fun x1 =>
   (bif (bB (gK (eqB x.X x1.X) (gK (eqB x.Y x1.Y) true))) then
    some (.out (.inl false))
   else
    some (.next (bq .i64 i 1)))
  else
   some (.out (.inr ())))
def b_R12_Same_3 (_a _b:Tree) (_i _aG:Int) (aK:List Int) (_aH:Int) (aL:List Int) (stt:Int):Option (Lp (Int) (Bool ⊕ Unit)):=match stt with
 | s =>
  (bif (ltB s (aT aK)) then
   (idx aK s).bind fun x =>
   (idx aL s).bind fun x1 =>
   (bif (neB x x1) then
    some (.out (.inl false))
   else
    some (.next (bq .i64 s 1)))
  else
   some (.out (.inr ())))
def b_R12_Same_2 (a b:Tree) (stt:Int):Option (Lp (Int) (Bool ⊕ Unit)):=match stt with
 | i =>
  (bif (ltB i (aT a.Nodes)) then
   ((idx a.Nodes i).bind fun x =>
   (idx b.Nodes i).bind fun x1 =>
   some (x.Level,x.Next,x1.Level,x1.Next)).bind fun(aG,aK,aH,aL) =>
   ((bif (neB aG aH) then
    some true
   else
    some (neB (aT aK) (aT aL)))).bind fun a2 =>
   (bif a2 then
    some (.out (.inl false))
   else
    (aY (b_R12_Same_3 a b i aG aK aH aL) ba 0).bind fun o=>match o with
     | .inl r =>
      some (.out (.inl r))
     | .inr _u =>
      some (.next (bq .i64 i 1)))
  else
   some (.out (.inr ())))
def m_R12_Same (a b:Tree):Option (Bool) :=
 ((bif (neB a.States b.States) then
  some true
 else
  (bif (neB (aT a.Hood) (aT b.Hood)) then
   some true
  else
   some (neB (aT a.Nodes) (aT b.Nodes))))).bind fun a1 =>
 (bif a1 then
  some false
 else
  (aY (b_R12_Same_1 a b) ba 0).bind fun o=>match o with
   | .inl r =>
    some r
   | .inr _u =>
    (aY (b_R12_Same_2 a b) ba 0).bind fun o=>match o with
     | .inl r =>
      some r
     | .inr _u =>
      some true)
def b_R13_expand_o_o_o_1 (f:Tree) (order:List Int) (i:Int) (keys:List Tree) (out:List Node) (stt:Int):Option (Lp (Int) ((Int×(List Tree)×(List Node)) ⊕ Unit)):=match stt with
 | k =>
  (bif (ltB k (aT out)) then
   ((idx out k).bind fun x =>
   (bif (eqB x.Level (bc .i64 (aT order) i)) then
    (idx keys k).bind fun x1 =>
    (m_R12_Same x1 f).bind fun y =>
    some y
   else
    some false)).bind fun a =>
   (bif a then
    some (.out (.inl (k,keys,out)))
   else
    some (.next (bq .i64 k 1)))
  else
   some (.out (.inr ())))
def b_R13_expand_o_o_o_2 (rcv:(Tree->(List Int)->Int->(List Tree)->(List Node)->Option (Int×(List Tree)×(List Node)))) (f:Tree) (order:List Int) (i:Int) (_out:List Node) (stt:Int×(List Tree)×(List Node)×(List Int)):Option (Lp (Int×(List Tree)×(List Node)×(List Int)) (((List Tree)×(List Node)×(List Int)))):=match stt with
 | (s,keys1,out1,l) =>
  (bif (ltB s f.States) then
   (idx order i).bind fun x =>
   (m_R13_Fix f x s).bind fun y =>
   (rcv y.1 order (bq .i64 i 1) keys1 out1).bind fun y1 =>
   (appL 8 l [y1.1]).bind fun _l1 =>
   some (.next ((bq .i64 s 1),y1.2.1,y1.2.2,(l++[y1.1])))
  else
   some (.out (keys1,out1,l)))
def mb_R13_expand_o_o_o (rcv:(Tree->(List Int)->Int->(List Tree)->(List Node)->Option (Int×(List Tree)×(List Node)))) (f:Tree) (order:List Int) (i:Int) (keys:List Tree) (out:List Node):Option (Int×(List Tree)×(List Node)) :=
 (bif (eqB i (aT order)) then
  (mkL 8 (aT order) (aT order) 0).bind fun _l =>
  (m_R12_Value f (List.replicate (aT order).toNat 0)).bind fun y =>
  some (y,keys,out)
 else
  (aY (b_R13_expand_o_o_o_1 f order i keys out) ba 0).bind fun o=>match o with
   | .inl r =>
    some r
   | .inr _u =>
    (aY (b_R13_expand_o_o_o_2 rcv f order i out) ba (0,keys,out,[])).bind fun(keys1,out1,l) =>
    (appL 56 keys1 [f]).bind fun _l1 =>
    (appL 32 out1 [(⟨(bc .i64 (aT order) i),l⟩:Node)]).bind fun _l2 =>
    some ((bc .i64 ((aT out1)+1) 1),(keys1++[f]),(out1++[(⟨(bc .i64 (aT order) i),l⟩:Node)])))
def m_R13_expand_o_o_o (f:Tree) (order:List Int) (i:Int) (keys:List Tree) (out:List Node):Option (Int×(List Tree)×(List Node)):=fU mb_R13_expand_o_o_o (fun _ _ _ _ _=>none) fg f order i keys out
def b_R13_expand_o_N_N_1 (_f:Tree) (_order:List Int) (_i:Int) (stt:Unit):Option (Lp (Unit) (Unit)):=match stt with
 | _u =>
  (bif (ltB 0 0) then
   none
  else
   some (.out ()))
def b_R13_expand_o_N_N_2 (f:Tree) (order:List Int) (i:Int) (stt:Int×(List Tree)×(List Node)×(List Int)):Option (Lp (Int×(List Tree)×(List Node)×(List Int)) (((List Tree)×(List Node)×(List Int)))):=match stt with
 | (s,keys,out,l) =>
  (bif (ltB s f.States) then
   (idx order i).bind fun x =>
   (m_R13_Fix f x s).bind fun y =>
   (m_R13_expand_o_o_o y.1 order (bq .i64 i 1) keys out).bind fun y1 =>
   (appL 8 l [y1.1]).bind fun _l1 =>
   some (.next ((bq .i64 s 1),y1.2.1,y1.2.2,(l++[y1.1])))
  else
   some (.out (keys,out,l)))
def mb_R13_expand_o_N_N (_rcv:(Tree->(List Int)->Int->Option (Int×(List Tree)×(List Node)))) (f:Tree) (order:List Int) (i:Int):Option (Int×(List Tree)×(List Node)) :=
 (bif (eqB i (aT order)) then
  (mkL 8 (aT order) (aT order) 0).bind fun _l =>
  (m_R12_Value f (List.replicate (aT order).toNat 0)).bind fun y =>
  some (y,[],[])
 else
  (aY (b_R13_expand_o_N_N_1 f order i) ba ()).bind fun _u =>
  (aY (b_R13_expand_o_N_N_2 f order i) ba (0,[],[],[])).bind fun(keys,out,l) =>
  (appL 56 keys [f]).bind fun _l1 =>
  (appL 32 out [(⟨(bc .i64 (aT order) i),l⟩:Node)]).bind fun _l2 =>
  some ((bc .i64 ((aT out)+1) 1),(keys++[f]),(out++[(⟨(bc .i64 (aT order) i),l⟩:Node)])))
def m_R13_expand_o_N_N (f:Tree) (order:List Int) (i:Int):Option (Int×(List Tree)×(List Node)):=fU mb_R13_expand_o_N_N (fun _ _ _=>none) fg f order i
def b_R13_Turn_1 (k:Int) (t:Tree) (stt:Int×(List Point)):Option (Lp (Int×(List Point)) ((List Point))):=match stt with
 | (i,images) =>
  (bif (ltB i (aT t.Hood)) then
   (idx t.Hood i).bind fun x =>
   (m_R04_Apply k x).bind fun y1 =>
   (appL 16 images [y1]).bind fun _l =>
   some (.next ((bq .i64 i 1),(images++[y1])))
  else
   some (.out images))
def b_R13_Turn_3 (_t:Tree) (images y1:List Point) (i:Int) (stt:Int×(List Int)):Option (Lp (Int×(List Int)) ((List Int))):=match stt with
 | (jv,aF) =>
  (bif (ltB jv (aT images)) then
   ((idx images jv).bind fun x =>
   (idx y1 i).bind fun x1 =>
   (bif (gK (eqB x.X x1.X) (gK (eqB x.Y x1.Y) true)) then
    (appL 8 aF [jv]).bind fun _l =>
    some (aF++[jv])
   else
    some aF)).bind fun order2 =>
   some (.next ((bq .i64 jv 1),order2))
  else
   some (.out aF))
def b_R13_Turn_2 (t:Tree) (images y1:List Point) (stt:Int×(List Int)):Option (Lp (Int×(List Int)) ((List Int))):=match stt with
 | (i,order) =>
  (bif (ltB i (aT y1)) then
   (aY (b_R13_Turn_3 t images y1 i) ba (0,order)).bind fun aF =>
   some (.next ((bq .i64 i 1),aF))
  else
   some (.out order))
def m_R13_Turn (k:Int) (t:Tree):Option (Tree×Int) :=
 (m_R12_Right t).bind fun y =>
 (bif (bB y) then
  some ((⟨0,[],[]⟩:Tree),11)
 else
  (aY (b_R13_Turn_1 k t) ba (0,[])).bind fun images =>
  (m_R03_Sort images).bind fun y1 =>
  (aY (b_R13_Turn_2 t images y1) ba (0,[])).bind fun order =>
  (m_R13_Reduce t).bind fun y2 =>
  (m_R13_expand_o_N_N y2 order 0).bind fun y3 =>
  (m_R13_reduced y3.2.2).bind fun y4 =>
  (bif (gtB (aT y4) 4096) then
   some ((⟨0,[],[]⟩:Tree),6)
  else
   some ((⟨t.States,y1,y4⟩:Tree),0)))
def m_R13_Equal (a b:Tree):Option (Bool) :=
 ((m_R12_Right a).bind fun y =>
 (bif y then
  (m_R12_Right b).bind fun y1 =>
  (bif y1 then
   (m_R13_Reduce a).bind fun y2 =>
   (m_R13_Reduce b).bind fun y3 =>
   (m_R12_Same y2 y3).bind fun y4 =>
   some y4
  else
   some false)
 else
  some false)).bind fun a1 =>
 some a1
def b_R16_Syms_1 (t:Tree) (stt:Int×(List Int)):Option (Lp (Int×(List Int)) ((List Int))):=match stt with
 | (k,out) =>
  ((bif (ltB k 8) then
   (m_R12_Right t).bind fun y =>
   some y
  else
   some false)).bind fun a =>
  (bif a then
   ((m_R13_Turn k t).bind fun y =>
   ((bif (eqB y.2 0) then
    (m_R13_Equal y.1 t).bind fun y1 =>
    some y1
   else
    some false)).bind fun a1 =>
   (bif a1 then
    (appL 8 out [k]).bind fun _l =>
    some (out++[k])
   else
    some out)).bind fun out1 =>
   some (.next ((bq .i64 k 1),out1))
  else
   some (.out out))
def m_R16_Syms (t:Tree):Option (List Int) :=
 (aY (b_R16_Syms_1 t) ba (0,[])).bind fun out =>
 some out
def m_L16_NotationSyms (t:Tree):Option (Bool) :=
 ((m_L12_Few t).bind fun y =>
 (bif (bB y) then
  some true
 else
  (bif (gtB (aT t.Nodes) 60) then
   some true
  else
   some (gtB (aT t.Hood) 9)))).bind fun a =>
 (bif a then
  (m_L16_awake).bind fun y =>
  some y
 else
  ((m_notation_Syms t).bind fun y =>
  (m_R16_Syms t).bind fun y1 =>
  (m_L12_Ints y y1).bind fun y2 =>
  (bif y2 then
   (m_L16_awake).bind fun y3 =>
   some y3
  else
   some false)).bind fun a1 =>
  some a1)
abbrev vI (n:Int):V:=.u (.one (.d (.int .i64 n)))
abbrev dI (n:Int):C:=.d (.int .i64 n)
abbrev vX (k:Nat):V:=.u (.one (.box k 0))
abbrev vO (k:Nat):V:=.u (.one (.own k))
abbrev dL (l:List Int):C:=.d (.sl 1 (List.map (rI .i64) l))
abbrev vT (b:Bool):V:=.u (.one (.d (.bool b)))
abbrev dR0 (l:List Node):C:=.d (.sl 2 (List.map Node.row l))
abbrev dR1 (l:List Point):C:=.d (.sl 2 (List.map Point.row l))
end Go.Proofs.YtcllfealpkhjfaaGreatDoor
