/- The types of the program, as lists and numbers. -/
import Derived.Test.YtlifofijgddjkabGreatDoorAmAp
import Derived.Test.YtlifofijgddjkabGreatDoorAmSe
import Derived.Test.YtlifofijgddjkabGreatDoorAmBs
import Derived.Test.YtlifofijgddjkabGreatDoorAmFz
namespace Go.Proofs.YtlifofijgddjkabGreatDoor
open Go.AM Go.Proofs
theorem rsetI (k:IntKind) (l:List Int) (i:Nat) (x:Int):(List.map (rI k) l).set i [L.int k x]=List.map (rI k) (l.set i x):=by rw[List.map_set]; rfl
structure Point where
 X:Int
 Y:Int
 deriving DecidableEq,Inhabited
def Point.row (x:Point):List L:=[.int .i64 x.X,.int .i64 x.Y]
theorem Point.row_eq (x:Point):x.row=[.int .i64 x.X,.int .i64 x.Y]:=rfl
theorem Point.rset (l:List Point) (i:Nat) (x0 x1:Int):(List.map Point.row l).set i [.int .i64 x0,.int .i64 x1]=List.map Point.row (l.set i ⟨x0,x1⟩):=by rw[List.map_set]; rfl
def Point.key (x:Point):Key:=.ints [x.X,x.Y]
def Point.ints (x:Point):List Int:=[x.X,x.Y]
instance:KeyF Point.key:=⟨fun a b h=>by unfold Point.key at h; cases a; cases b; injection h with h; simp only[List.cons.injEq,and_true] at h; simp only[Point.mk.injEq]; exact h⟩
structure Ar where
 Hood:List Point
 States:Int
 Birth:List Int
 Survive:List Int
 deriving DecidableEq,Inhabited
def Ar.row (x:Ar):List L:=[.sl 2 (List.map Point.row x.Hood),.int .i64 x.States,.sl 1 (List.map (rI .i64) x.Birth),.sl 1 (List.map (rI .i64) x.Survive)]
theorem Ar.row_eq (x:Ar):x.row=[.sl 2 (List.map Point.row x.Hood),.int .i64 x.States,.sl 1 (List.map (rI .i64) x.Birth),.sl 1 (List.map (rI .i64) x.Survive)]:=rfl
structure Node where
 Level:Int
 Next:List Int
 deriving DecidableEq,Inhabited
def Node.row (x:Node):List L:=[.int .i64 x.Level,.sl 1 (List.map (rI .i64) x.Next)]
theorem Node.row_eq (x:Node):x.row=[.int .i64 x.Level,.sl 1 (List.map (rI .i64) x.Next)]:=rfl
structure Tree where
 States:Int
 Hood:List Point
 Nodes:List Node
 deriving DecidableEq,Inhabited
def Tree.row (x:Tree):List L:=[.int .i64 x.States,.sl 2 (List.map Point.row x.Hood),.sl 2 (List.map Node.row x.Nodes)]
theorem Tree.row_eq (x:Tree):x.row=[.int .i64 x.States,.sl 2 (List.map Point.row x.Hood),.sl 2 (List.map Node.row x.Nodes)]:=rfl
structure Row where
 Ins:List Int
 Out:Int
 deriving DecidableEq,Inhabited
def Row.row (x:Row):List L:=[.sl 1 (List.map (rI .i64) x.Ins),.int .i64 x.Out]
theorem Row.row_eq (x:Row):x.row=[.sl 1 (List.map (rI .i64) x.Ins),.int .i64 x.Out]:=rfl
structure Table where
 States:Int
 Sym:Int
 Hood:List Point
 Vars:List (List Int)
 Rows:List Row
 deriving DecidableEq,Inhabited
def Table.row (x:Table):List L:=[.int .i64 x.States,.int .i64 x.Sym,.sl 2 (List.map Point.row x.Hood),.sl 1 (List.map (rS 1 (rI .i64)) x.Vars),.sl 2 (List.map Row.row x.Rows)]
theorem Table.row_eq (x:Table):x.row=[.int .i64 x.States,.int .i64 x.Sym,.sl 2 (List.map Point.row x.Hood),.sl 1 (List.map (rS 1 (rI .i64)) x.Vars),.sl 2 (List.map Row.row x.Rows)]:=rfl
structure As where
 ones:Int
 centre:Int
 deriving DecidableEq,Inhabited
def As.row (x:As):List L:=[.int .i64 x.ones,.int .i64 x.centre]
theorem As.row_eq (x:As):x.row=[.int .i64 x.ones,.int .i64 x.centre]:=rfl
theorem As.rset (l:List As) (i:Nat) (x0 x1:Int):(List.map As.row l).set i [.int .i64 x0,.int .i64 x1]=List.map As.row (l.set i ⟨x0,x1⟩):=by rw[List.map_set]; rfl
def As.key (x:As):Key:=.ints [x.ones,x.centre]
def As.ints (x:As):List Int:=[x.ones,x.centre]
instance:KeyF As.key:=⟨fun a b h=>by unfold As.key at h; cases a; cases b; injection h with h; simp only[List.cons.injEq,and_true] at h; simp only[As.mk.injEq]; exact h⟩
structure Au where
 at_:Int
 s:As
 deriving DecidableEq,Inhabited
def Au.row (x:Au):List L:=[.int .i64 x.at_,.int .i64 x.s.ones,.int .i64 x.s.centre]
theorem Au.row_eq (x:Au):x.row=[.int .i64 x.at_,.int .i64 x.s.ones,.int .i64 x.s.centre]:=rfl
def Au.key (x:Au):Key:=.ints [x.at_,x.s.ones,x.s.centre]
def Au.ints (x:Au):List Int:=[x.at_,x.s.ones,x.s.centre]
instance:KeyF Au.key:=⟨fun a b h=>by obtain⟨a0,⟨a1,a2⟩⟩:=a; obtain⟨b0,⟨b1,b2⟩⟩:=b; simp only[Au.key,Key.ints.injEq,List.cons.injEq,and_true] at h; obtain⟨rfl,rfl,rfl⟩:=h; rfl⟩
structure Av where
 at_:Int
 s:Int
 deriving DecidableEq,Inhabited
def Av.row (x:Av):List L:=[.int .i64 x.at_,.int .i64 x.s]
theorem Av.row_eq (x:Av):x.row=[.int .i64 x.at_,.int .i64 x.s]:=rfl
theorem Av.rset (l:List Av) (i:Nat) (x0 x1:Int):(List.map Av.row l).set i [.int .i64 x0,.int .i64 x1]=List.map Av.row (l.set i ⟨x0,x1⟩):=by rw[List.map_set]; rfl
def Av.key (x:Av):Key:=.ints [x.at_,x.s]
def Av.ints (x:Av):List Int:=[x.at_,x.s]
instance:KeyF Av.key:=⟨fun a b h=>by unfold Av.key at h; cases a; cases b; injection h with h; simp only[List.cons.injEq,and_true] at h; simp only[Av.mk.injEq]; exact h⟩
attribute [simp] Point.row_eq Ar.row_eq Node.row_eq Tree.row_eq Row.row_eq Table.row_eq As.row_eq Au.row_eq Av.row_eq
def g0R:List (Int×Int×Int×Int):=[(1,0,0,1),(0,(-1),1,0),((-1),0,0,(-1)),(0,1,(-1),0),((-1),0,0,1),(0,(-1),(-1),0),(1,0,0,(-1)),(0,1,1,0)]
end Go.Proofs.YtlifofijgddjkabGreatDoor
namespace Go.Proofs.YtlifofijgddjkabGreatDoor
end Go.Proofs.YtlifofijgddjkabGreatDoor
namespace Go.Proofs.YtlifofijgddjkabGreatDoor
open Go.AM Go.Proofs
def m_internal_stringslite_HasPrefix (s ax:List UInt8):Option (Bool) :=
 ((bif (geB (bu s) (bu ax)) then
  (fA s 0 (bu ax)).bind fun s1 =>
  some (eqS s1 ax)
 else
  some false)).bind fun a =>
 some a
def m_internal_stringslite_CutPrefix (s ax:List UInt8):Option ((List UInt8)×Bool) :=
 (m_internal_stringslite_HasPrefix s ax).bind fun y =>
 (bif (ba y) then
  some (s,false)
 else
  (fA s (bu ax) (bu s)).bind fun s1 =>
  some (s1,true))
def m_strings_CutPrefix (s ax:List UInt8):Option ((List UInt8)×Bool) :=
 (m_internal_stringslite_CutPrefix s ax).bind fun y =>
 some (y.1,y.2)
def m_strings_Cut (s sep:List UInt8):Option ((List UInt8)×(List UInt8)×Bool):=cutS s sep
def m_hood_Moore_1 (_x _y:Int):Option (Bool) :=
 some true
def b_hood_collect_hood_Moore_1_2 (r_ y:Int) (stt:Int×(List Point)):Option (Lp (Int×(List Point)) ((List Point))):=match stt with
 | (x,l1) =>
  (bif (leB x r_) then
   ((m_hood_Moore_1 x y).bind fun y1 =>
   (bif y1 then
    (appL 16 l1 [(⟨x,y⟩:Point)]).bind fun _l2 =>
    some (l1++[(⟨x,y⟩:Point)])
   else
    some l1)).bind fun l2 =>
   some (.next ((bq .i64 x 1),l2))
  else
   some (.out l1))
def b_hood_collect_hood_Moore_1_1 (r_:Int) (stt:Int×(List Point)):Option (Lp (Int×(List Point)) ((List Point))):=match stt with
 | (y,l) =>
  (bif (leB y r_) then
   (aT (b_hood_collect_hood_Moore_1_2 r_ y) b7 ((ineg .i64 r_),l)).bind fun l1 =>
   some (.next ((bq .i64 y 1),l1))
  else
   some (.out l))
def m_hood_collect_hood_Moore_1 (r_:Int):Option (List Point) :=
 (aT (b_hood_collect_hood_Moore_1_1 r_) b7 ((ineg .i64 r_),[])).bind fun l =>
 some l
def m_hood_Moore (r_:Int):Option (List Point) :=
 ((bif (ltB r_ 0) then
  some true
 else
  some (gtB r_ 2))).bind fun a =>
 (bif a then
  some []
 else
  (m_hood_collect_hood_Moore_1 r_).bind fun y =>
  some y)
def m_internal_stringslite_HasSuffix (s aC:List UInt8):Option (Bool) :=
 ((bif (geB (bu s) (bu aC)) then
  (fA s (aX .i64 (bu s) (bu aC)) (bu s)).bind fun s1 =>
  some (eqS s1 aC)
 else
  some false)).bind fun a =>
 some a
def m_internal_stringslite_CutSuffix (s aC:List UInt8):Option ((List UInt8)×Bool) :=
 (m_internal_stringslite_HasSuffix s aC).bind fun y =>
 (bif (ba y) then
  some (s,false)
 else
  (fA s 0 (aX .i64 (bu s) (bu aC))).bind fun s1 =>
  some (s1,true))
def m_strings_CutSuffix (s aC:List UInt8):Option ((List UInt8)×Bool) :=
 (m_internal_stringslite_CutSuffix s aC).bind fun y =>
 some (y.1,y.2)
def m_hood_Neumann_1 (x y a:Int):Option (Bool) :=
 some (leB (bq .i64 (imax x (ineg .i64 x)) (imax y (ineg .i64 y))) a)
def b_hood_collect_hood_Neumann_1_o_2 (r_ cv y:Int) (stt:Int×(List Point)):Option (Lp (Int×(List Point)) ((List Point))):=match stt with
 | (x,l1) =>
  (bif (leB x r_) then
   ((m_hood_Neumann_1 x y cv).bind fun y1 =>
   (bif y1 then
    (appL 16 l1 [(⟨x,y⟩:Point)]).bind fun _l2 =>
    some (l1++[(⟨x,y⟩:Point)])
   else
    some l1)).bind fun l2 =>
   some (.next ((bq .i64 x 1),l2))
  else
   some (.out l1))
def b_hood_collect_hood_Neumann_1_o_1 (r_ cv:Int) (stt:Int×(List Point)):Option (Lp (Int×(List Point)) ((List Point))):=match stt with
 | (y,l) =>
  (bif (leB y r_) then
   (aT (b_hood_collect_hood_Neumann_1_o_2 r_ cv y) b7 ((ineg .i64 r_),l)).bind fun l1 =>
   some (.next ((bq .i64 y 1),l1))
  else
   some (.out l))
def m_hood_collect_hood_Neumann_1_o (r_ cv:Int):Option (List Point) :=
 (aT (b_hood_collect_hood_Neumann_1_o_1 r_ cv) b7 ((ineg .i64 r_),[])).bind fun l =>
 some l
def m_hood_Neumann (r_:Int):Option (List Point) :=
 ((bif (ltB r_ 0) then
  some true
 else
  some (gtB r_ 2))).bind fun a =>
 (bif a then
  some []
 else
  (m_hood_collect_hood_Neumann_1_o r_ r_).bind fun y =>
  some y)
def m_hood_Hex_1 (x y:Int):Option (Bool) :=
 some (geB (imul .i64 x y) 0)
def b_hood_collect_hood_Hex_1_2 (r_ y:Int) (stt:Int×(List Point)):Option (Lp (Int×(List Point)) ((List Point))):=match stt with
 | (x,l1) =>
  (bif (leB x r_) then
   ((m_hood_Hex_1 x y).bind fun y1 =>
   (bif y1 then
    (appL 16 l1 [(⟨x,y⟩:Point)]).bind fun _l2 =>
    some (l1++[(⟨x,y⟩:Point)])
   else
    some l1)).bind fun l2 =>
   some (.next ((bq .i64 x 1),l2))
  else
   some (.out l1))
def b_hood_collect_hood_Hex_1_1 (r_:Int) (stt:Int×(List Point)):Option (Lp (Int×(List Point)) ((List Point))):=match stt with
 | (y,l) =>
  (bif (leB y r_) then
   (aT (b_hood_collect_hood_Hex_1_2 r_ y) b7 ((ineg .i64 r_),l)).bind fun l1 =>
   some (.next ((bq .i64 y 1),l1))
  else
   some (.out l))
def m_hood_collect_hood_Hex_1 (r_:Int):Option (List Point) :=
 (aT (b_hood_collect_hood_Hex_1_1 r_) b7 ((ineg .i64 r_),[])).bind fun l =>
 some l
def m_hood_Hex:Option (List Point) :=
 (m_hood_collect_hood_Hex_1 1).bind fun y =>
 some y
def b_lifelike_ascends_1 (l:List Int) (n:Int) (stt:Int×Int):Option (Lp (Int×Int) (Bool ⊕ Unit)):=match stt with
 | (last,a) =>
  (bif (ltB a (aO l)) then
   (idx l a).bind fun x =>
   ((bif (leB x last) then
    some true
   else
    some (gtB x n))).bind fun a1 =>
   (bif a1 then
    some (.out (.inl false))
   else
    some (.next (x,(bq .i64 a 1))))
  else
   some (.out (.inr ())))
def m_lifelike_ascends (l:List Int) (n:Int):Option (Bool) :=
 (aT (b_lifelike_ascends_1 l n) b7 ((-1),0)).bind fun o=>match o with
  | .inl r =>
   some r
  | .inr _u =>
   some true
def b_lifelike_digits_1 (l:List Int) (stt:Int×(List Int)):Option (Lp (Int×(List Int)) (((List Int)×Bool) ⊕ (List Int))):=match stt with
 | (a,out) =>
  (bif (ltB a (aO l)) then
   (idx l a).bind fun x =>
   ((bif (ltB x 48) then
    some true
   else
    some (gtB x 57))).bind fun a1 =>
   (bif a1 then
    some (.out (.inl ([],false)))
   else
    (appL 8 out [(dz .i64 (aX .u8 x 48))]).bind fun _l1 =>
    some (.next ((bq .i64 a 1),(out++[(dz .i64 (aX .u8 x 48))]))))
  else
   some (.out (.inr out)))
def m_lifelike_digits (s:List UInt8):Option ((List Int)×Bool) :=
 (toBk s).bind fun l =>
 (aT (b_lifelike_digits_1 l) b7 (0,[])).bind fun o=>match o with
  | .inl r =>
   some r
  | .inr out =>
   (m_lifelike_ascends out 9).bind fun y =>
   some (out,y)
def b_slices_Equal_api_Point_api_Point_1 (sv1 sv2:List Point) (stt:Int):Option (Lp (Int) (Bool ⊕ Unit)):=match stt with
 | a =>
  (bif (ltB a (aO sv1)) then
   (idx sv1 a).bind fun x =>
   (idx sv2 a).bind fun x1 =>
   (bif (ba (gP (eqB x.X x1.X) (gP (eqB x.Y x1.Y) true))) then
    some (.out (.inl false))
   else
    some (.next (bq .i64 a 1)))
  else
   some (.out (.inr ())))
def m_slices_Equal_api_Point_api_Point (sv1 sv2:List Point):Option (Bool) :=
 (bif (neB (aO sv1) (aO sv2)) then
  some false
 else
  (aT (b_slices_Equal_api_Point_api_Point_1 sv1 sv2) b7 0).bind fun o=>match o with
   | .inl r =>
    some r
   | .inr _u =>
    some true)
def m_hood_Same (a b:List Point):Option (Bool) :=
 (m_slices_Equal_api_Point_api_Point a b).bind fun y =>
 some y
def m_lifelike_letter (l:List Point):Option ((List UInt8)×Bool) :=
 (m_hood_Moore 1).bind fun y =>
 (m_hood_Same l y).bind fun y1 =>
 (bif y1 then
  some (([]:List UInt8),true)
 else
  (m_hood_Neumann 1).bind fun y2 =>
  (m_hood_Same l y2).bind fun y3 =>
  (bif y3 then
   some (([86]:List UInt8),true)
  else
   (m_hood_Hex).bind fun y4 =>
   (m_hood_Same l y4).bind fun y5 =>
   (bif y5 then
    some (([72]:List UInt8),true)
   else
    some (([]:List UInt8),false))))
def m_lifelike_Right (t:Ar):Option (Bool) :=
 (m_lifelike_letter t.Hood).bind fun y =>
 ((bif y.2 then
  (bif (geB t.States 2) then
   (bif (leB t.States 8) then
    (m_lifelike_ascends t.Birth (aX .i64 (aO t.Hood) 1)).bind fun y1 =>
    (bif y1 then
     (m_lifelike_ascends t.Survive (aX .i64 (aO t.Hood) 1)).bind fun y2 =>
     some y2
    else
     some false)
   else
    some false)
  else
   some false)
 else
  some false)).bind fun a =>
 some a
def m_lifelike_Parse (s:List UInt8):Option (Ar×Int) :=
 (m_strings_CutPrefix s ([66]:List UInt8)).bind fun y =>
 (m_strings_Cut y.1 ([47,83]:List UInt8)).bind fun y1 =>
 ((bif (ba y.2) then
  some true
 else
  some (ba y1.2.2))).bind fun a =>
 (bif a then
  some ((⟨[],0,[],[]⟩:Ar),15)
 else
  (m_hood_Moore 1).bind fun y2 =>
  ((m_strings_CutSuffix y1.2.1 ([86]:List UInt8)).bind fun y3 =>
  (bif y3.2 then
   (m_hood_Neumann 1).bind fun y4 =>
   some (y3.1,y4)
  else
   (m_strings_CutSuffix y1.2.1 ([72]:List UInt8)).bind fun y4 =>
   (bif y4.2 then
    (m_hood_Hex).bind fun y5 =>
    some (y4.1,y5)
   else
    some (y1.2.1,y2)))).bind fun(aJ,al) =>
  (m_lifelike_digits y1.1).bind fun y3 =>
  (m_lifelike_digits aJ).bind fun y4 =>
  ((bif (ba y3.2) then
   some true
  else
   some (ba y4.2))).bind fun a1 =>
  (bif a1 then
   some ((⟨[],0,[],[]⟩:Ar),15)
  else
   (m_lifelike_Right (⟨al,2,y3.1,y4.1⟩:Ar)).bind fun y5 =>
   (bif (ba y5) then
    some ((⟨[],0,[],[]⟩:Ar),5)
   else
    some ((⟨al,2,y3.1,y4.1⟩:Ar),0))))
def m_strings_Split (s sep:List UInt8):Option (List (List UInt8)):=splitS s sep
def b_generations_digits_1 (l:List Int) (stt:Int×(List Int)):Option (Lp (Int×(List Int)) (((List Int)×Bool) ⊕ (List Int))):=match stt with
 | (a,out) =>
  (bif (ltB a (aO l)) then
   (idx l a).bind fun x =>
   ((bif (ltB (aX .i64 (dz .i64 x) 48) 0) then
    some true
   else
    (bif (gtB (aX .i64 (dz .i64 x) 48) 9) then
     some true
    else
     (bif (gtB (aO out) 0) then
      (idx out (aX .i64 (aO out) 1)).bind fun x1 =>
      some (leB (aX .i64 (dz .i64 x) 48) x1)
     else
      some false)))).bind fun a1 =>
   (bif a1 then
    some (.out (.inl ([],false)))
   else
    (appL 8 out [(aX .i64 (dz .i64 x) 48)]).bind fun _l1 =>
    some (.next ((bq .i64 a 1),(out++[(aX .i64 (dz .i64 x) 48)]))))
  else
   some (.out (.inr out)))
def m_generations_digits (s:List UInt8):Option ((List Int)×Bool) :=
 (toBk s).bind fun l =>
 (aT (b_generations_digits_1 l) b7 (0,[])).bind fun o=>match o with
  | .inl r =>
   some r
  | .inr out =>
   some (out,true)
def b_generations_number_1 (_s:List UInt8) (l:List Int) (stt:Int):Option (Lp (Int) (Bool ⊕ Unit)):=match stt with
 | a =>
  (bif (ltB a (aO l)) then
   (idx l a).bind fun x =>
   ((bif (ltB x 48) then
    some true
   else
    some (gtB x 57))).bind fun a1 =>
   (bif a1 then
    some (.out (.inl false))
   else
    some (.next (bq .i64 a 1)))
  else
   some (.out (.inr ())))
def m_generations_number (s:List UInt8):Option (Bool) :=
 (toBk s).bind fun l =>
 (aT (b_generations_number_1 s l) b7 0).bind fun o=>match o with
  | .inl r =>
   some r
  | .inr _u =>
   ((bif (geB (bu s) 1) then
    (bif (leB (bu s) 3) then
     (idxS s 0).bind fun b =>
     some (neB b 48)
    else
     some false)
   else
    some false)).bind fun a =>
   some a
def m_strconv_Atoi (s:List UInt8):Option (Int×Bool):=atoiA s
def m_generations_Parse (s:List UInt8):Option (Ar×Int) :=
 (m_hood_Moore 1).bind fun y =>
 ((m_strings_CutSuffix s ([86]:List UInt8)).bind fun y1 =>
 (bif y1.2 then
  (m_hood_Neumann 1).bind fun y2 =>
  some (y1.1,y2)
 else
  (m_strings_CutSuffix s ([72]:List UInt8)).bind fun y2 =>
  (bif y2.2 then
   (m_hood_Hex).bind fun y3 =>
   some (y2.1,y3)
  else
   some (s,y)))).bind fun(s1,al) =>
 (m_strings_Split s1 ([47]:List UInt8)).bind fun y1 =>
 (bif (neB (aO y1) 3) then
  some ((⟨[],0,[],[]⟩:Ar),15)
 else
  (idx y1 1).bind fun x =>
  (idx y1 0).bind fun x1 =>
  (idx y1 2).bind fun x2 =>
  (m_strings_CutPrefix s1 ([66]:List UInt8)).bind fun y2 =>
  (bif y2.2 then
   (m_strings_Split y2.1 ([47]:List UInt8)).bind fun y3 =>
   (idx y3 1).bind fun x3 =>
   (m_strings_CutPrefix x3 ([83]:List UInt8)).bind fun y4 =>
   (idx y3 2).bind fun x4 =>
   (m_strings_CutPrefix x4 ([67]:List UInt8)).bind fun y5 =>
   ((bif (ba y4.2) then
    some true
   else
    some (ba y5.2))).bind fun a =>
   (bif a then
    some ((⟨[],0,[],[]⟩:Ar),15)
   else
    (idx y3 0).bind fun x5 =>
    (m_generations_digits x5).bind fun y6 =>
    (m_generations_digits y4.1).bind fun y7 =>
    ((bif (ba y6.2) then
     some true
    else
     (bif (ba y7.2) then
      some true
     else
      (m_generations_number y5.1).bind fun y8 =>
      some (ba y8)))).bind fun a1 =>
    (bif a1 then
     some ((⟨[],0,[],[]⟩:Ar),15)
    else
     (m_strconv_Atoi y5.1).bind fun y8 =>
     ((bif (ltB y8.1 3) then
      some true
     else
      (bif (gtB y8.1 8) then
       some true
      else
       (m_lifelike_Right (⟨al,y8.1,y6.1,y7.1⟩:Ar)).bind fun y9 =>
       some (ba y9)))).bind fun a2 =>
     (bif a2 then
      some ((⟨[],0,[],[]⟩:Ar),5)
     else
      some ((⟨al,y8.1,y6.1,y7.1⟩:Ar),0))))
  else
   (m_generations_digits x).bind fun y3 =>
   (m_generations_digits x1).bind fun y4 =>
   ((bif (ba y3.2) then
    some true
   else
    (bif (ba y4.2) then
     some true
    else
     (m_generations_number x2).bind fun y5 =>
     some (ba y5)))).bind fun a =>
   (bif a then
    some ((⟨[],0,[],[]⟩:Ar),15)
   else
    (m_strconv_Atoi x2).bind fun y5 =>
    ((bif (ltB y5.1 3) then
     some true
    else
     (bif (gtB y5.1 8) then
      some true
     else
      (m_lifelike_Right (⟨al,y5.1,y3.1,y4.1⟩:Ar)).bind fun y6 =>
      some (ba y6)))).bind fun a1 =>
    (bif a1 then
     some ((⟨[],0,[],[]⟩:Ar),5)
    else
     some ((⟨al,y5.1,y3.1,y4.1⟩:Ar),0)))))
def m_strings_Trim (s cs:List UInt8):Option (List UInt8):=trimM s cs
def m_wolfram_number (s:List UInt8):Option (Int×Bool×Bool) :=
 ((bif (eqS s ([]:List UInt8)) then
  some true
 else
  (bif (gtB (bu s) 1) then
   (idxS s 0).bind fun b =>
   (bif (eqB b 48) then
    some true
   else
    (m_strings_Trim s ([48,49,50,51,52,53,54,55,56,57]:List UInt8)).bind fun y =>
    some (ba (eqS y ([]:List UInt8))))
  else
   (m_strings_Trim s ([48,49,50,51,52,53,54,55,56,57]:List UInt8)).bind fun y =>
   some (ba (eqS y ([]:List UInt8)))))).bind fun a =>
 (bif a then
  some (0,false,false)
 else
  (m_strconv_Atoi s).bind fun y =>
  some (y.1,true,(!y.2)))
def m_wolfram_sums (states:Int):Option (Int) :=
 some (aX .i64 (imul .i64 3 states) 2)
def b_wolfram_Digits_1 (states y:Int) (stt:Int×Int×(List Int)):Option (Lp (Int×Int×(List Int)) ((Int×(List Int)))):=match stt with
 | (n1,a1,l) =>
  (bif (ltB a1 y) then
   (irem n1 states).bind fun n2 =>
   (appL 8 l [n2]).bind fun _l1 =>
   (iquo .i64 n1 states).bind fun n3 =>
   some (.next (n3,(bq .i64 a1 1),(l++[n2])))
  else
   some (.out (n1,l)))
def m_wolfram_Digits (states n:Int):Option ((List Int)×Int) :=
 ((bif (ltB states 2) then
  some true
 else
  some (gtB states 8))).bind fun a =>
 (bif a then
  some ([],2)
 else
  (bif (ltB n 0) then
   some ([],5)
  else
   (m_wolfram_sums states).bind fun y =>
   (aT (b_wolfram_Digits_1 states y) b7 (n,0,[])).bind fun(n1,l) =>
   (bif (gtB n1 0) then
    some ([],5)
   else
    some (l,0))))
def m_wolfram_Parse (s:List UInt8):Option (Int×Int×Bool×Int) :=
 (m_strings_CutPrefix s ([87]:List UInt8)).bind fun y =>
 (bif y.2 then
  (m_wolfram_number y.1).bind fun y1 =>
  (bif (ba y1.2.1) then
   some (0,0,false,15)
  else
   ((bif (ba y1.2.2) then
    some true
   else
    some (gtB y1.1 255))).bind fun a =>
   (bif a then
    some (0,0,false,5)
   else
    some (2,y1.1,false,0)))
 else
  (m_strings_CutPrefix s ([84]:List UInt8)).bind fun y1 =>
  (m_strings_Cut y1.1 ([47]:List UInt8)).bind fun y2 =>
  (m_wolfram_number y2.1).bind fun y3 =>
  (m_wolfram_number y2.2.1).bind fun y4 =>
  ((bif (ba y1.2) then
   some true
  else
   (bif (ba y2.2.2) then
    some true
   else
    (bif (ba y3.2.1) then
     some true
    else
     some (ba y4.2.1))))).bind fun a =>
  (bif a then
   some (0,0,false,15)
  else
   ((bif (ba y3.2.2) then
    some true
   else
    some (ba y4.2.2))).bind fun a1 =>
   (bif a1 then
    some (0,0,false,5)
   else
    (m_wolfram_Digits y4.1 y3.1).bind fun y5 =>
    (bif (neB y5.2 0) then
     some (0,0,false,5)
    else
     some (y4.1,y3.1,true,0)))))
def m_strings_HasPrefix (s ax:List UInt8):Option (Bool) :=
 (m_internal_stringslite_HasPrefix s ax).bind fun y =>
 some y
def m_strings_Index (s sub:List UInt8):Option (Int):=indexS s sub
def m_strings_Contains (s aK:List UInt8):Option (Bool) :=
 (m_strings_Index s aK).bind fun y =>
 some (geB y 0)
def m_notation_Kind (s:List UInt8):Option (Int) :=
 (m_lifelike_Parse s).bind fun y =>
 (bif (neB y.2 15) then
  some 1
 else
  (m_generations_Parse s).bind fun y1 =>
  (bif (neB y1.2 15) then
   some 2
  else
   (m_wolfram_Parse s).bind fun y2 =>
   (bif (neB y2.2.2.2 15) then
    (m_strings_HasPrefix s ([87]:List UInt8)).bind fun y3 =>
    (bif y3 then
     some 3
    else
     (m_strings_HasPrefix s ([84]:List UInt8)).bind fun y4 =>
     (bif y4 then
      some 4
     else
      (m_strings_Contains s ([10]:List UInt8)).bind fun y5 =>
      (bif y5 then
       some 5
      else
       some 0)))
   else
    (m_strings_Contains s ([10]:List UInt8)).bind fun y3 =>
    (bif y3 then
     some 5
    else
     some 0))))
def m_cmp_isNaN_int (x:Int):Option (Bool) :=
 some (neB x x)
def m_cmp_Compare_int (x y:Int):Option (Int) :=
 (m_cmp_isNaN_int x).bind fun y1 =>
 (m_cmp_isNaN_int y).bind fun y2 =>
 (bif y1 then
  (bif y2 then
   some 0
  else
   some (-1))
 else
  (bif y2 then
   some 1
  else
   (bif (ltB x y) then
    some (-1)
   else
    (bif (gtB x y) then
     some 1
    else
     some 0))))
def b_cmp_Or_int_1 (vals:List Int) (stt:Int):Option (Lp (Int) (Int ⊕ Unit)):=match stt with
 | a =>
  (bif (ltB a (aO vals)) then
   (idx vals a).bind fun x =>
   (bif (neB x 0) then
    some (.out (.inl x))
   else
    some (.next (bq .i64 a 1)))
  else
   some (.out (.inr ())))
def m_cmp_Or_int (vals:List Int):Option (Int) :=
 (aT (b_cmp_Or_int_1 vals) b7 0).bind fun o=>match o with
  | .inl r =>
   some r
  | .inr _u =>
   some 0
def m_point_Compare (a b:Point):Option (Int) :=
 (m_cmp_Compare_int a.Y b.Y).bind fun y =>
 (m_cmp_Compare_int a.X b.X).bind fun y1 =>
 (m_cmp_Or_int [y,y1]).bind fun y2 =>
 some y2
def b_hood_Right_1 (l:List Point) (stt:Int):Option (Lp (Int) (Bool ⊕ Unit)):=match stt with
 | a1 =>
  (bif (ltB a1 (aO l)) then
   (idx l a1).bind fun x =>
   ((bif (ltB x.X (-2)) then
    some true
   else
    (bif (gtB x.X 2) then
     some true
    else
     (bif (ltB x.Y (-2)) then
      some true
     else
      (bif (gtB x.Y 2) then
       some true
      else
       (bif (gtB a1 0) then
        (idx l (aX .i64 a1 1)).bind fun x1 =>
        (m_point_Compare x1 x).bind fun y =>
        some (geB y 0)
       else
        some false)))))).bind fun a2 =>
   (bif a2 then
    some (.out (.inl false))
   else
    some (.next (bq .i64 a1 1)))
  else
   some (.out (.inr ())))
def m_hood_Right (l:List Point):Option (Bool) :=
 ((bif (ltB (aO l) 1) then
  some true
 else
  some (gtB (aO l) 25))).bind fun a =>
 (bif a then
  some false
 else
  (aT (b_hood_Right_1 l) b7 0).bind fun o=>match o with
   | .inl r =>
    some r
   | .inr _u =>
    some true)
def b_slices_Index_api_Point_api_Point_1 (s:List Point) (v:Point) (stt:Int):Option (Lp (Int) (Int ⊕ Unit)):=match stt with
 | a =>
  (bif (ltB a (aO s)) then
   (idx s a).bind fun x =>
   (bif (gP (eqB v.X x.X) (gP (eqB v.Y x.Y) true)) then
    some (.out (.inl a))
   else
    some (.next (bq .i64 a 1)))
  else
   some (.out (.inr ())))
def m_slices_Index_api_Point_api_Point (s:List Point) (v:Point):Option (Int) :=
 (aT (b_slices_Index_api_Point_api_Point_1 s v) b7 0).bind fun o=>match o with
  | .inl r =>
   some r
  | .inr _u =>
   some (-1)
def m_hood_Centre (l:List Point):Option (Int) :=
 (m_hood_Right l).bind fun y =>
 (bif (ba y) then
  some (-1)
 else
  (m_slices_Index_api_Point_api_Point l (⟨0,0⟩:Point)).bind fun y1 =>
  some y1)
def m_slices_Clone_api_Point_api_Point (l:List Point):Option (List Point):=appL 16 [] l
def b_slices_Index_int_int_1 (s:List Int) (v stt:Int):Option (Lp (Int) (Int ⊕ Unit)):=match stt with
 | a =>
  (bif (ltB a (aO s)) then
   (idx s a).bind fun x =>
   (bif (eqB v x) then
    some (.out (.inl a))
   else
    some (.next (bq .i64 a 1)))
  else
   some (.out (.inr ())))
def m_slices_Index_int_int (s:List Int) (v:Int):Option (Int) :=
 (aT (b_slices_Index_int_int_1 s v) b7 0).bind fun o=>match o with
  | .inl r =>
   some r
  | .inr _u =>
   some (-1)
def m_slices_Contains_int_int (s:List Int) (v:Int):Option (Bool) :=
 (m_slices_Index_int_int s v).bind fun y =>
 some (geB y 0)
def m_totaltree_Totals_2 (s:As) (a:Ar):Option (Int) :=
 (bif (eqB s.centre 0) then
  ((m_slices_Contains_int_int a.Birth s.ones).bind fun y =>
  (bif y then
   some 1
  else
   some s.centre)).bind fun next =>
  some next
 else
  ((bif (eqB s.centre 1) then
   (m_slices_Contains_int_int a.Survive s.ones).bind fun y =>
   some y
  else
   some false)).bind fun a1 =>
  (bif a1 then
   some 1
  else
   (irem (bq .i64 s.centre 1) a.States).bind fun n =>
   some n))
def m_totaltree_Totals_1_o (s:As) (at_ state a:Int):Option (Int×Int) :=
 ((bif (eqB at_ a) then
  some (s.ones,state)
 else
  (bif (eqB state 1) then
   some ((bq .i64 s.ones 1),s.centre)
  else
   some (s.ones,s.centre)))).bind fun(sones,scentre) =>
 some (sones,scentre)
def m_internal_strconv_AppendUint_o (l:List Int) (n base:Int):Option (List Int):=appUM l n base
def m_internal_strconv_AppendInt_o (dst:List Int) (i base:Int):Option (List Int) :=
 ((bif (ltB i 0) then
  (appL 1 dst [45]).bind fun _l =>
  some ((ineg .u64 (dz .u64 i)),(dst++[45]))
 else
  some ((dz .u64 i),dst))).bind fun(u,dst1) =>
 (m_internal_strconv_AppendUint_o dst1 u base).bind fun y =>
 some y
def m_strconv_AppendInt_o (dst:List Int) (i base:Int):Option (List Int) :=
 (m_internal_strconv_AppendInt_o dst i base).bind fun y =>
 some y
def b_totaltree_build_totaltree_sum_1_o_o_o_o_o_o_o_o_1 (rcv:(Au->(List Point)->(List Point)->Int->(List Int)->(List Int)->(List (Au×Int))->Int->Int->(List (List UInt8×Int))->Int->(List Point)->(List Node)->Option (Int×(List (Au×Int))×(List (List UInt8×Int))×(List Node)))) (p:Au) (a ae:List Point) (a8:Int) (av ah:List Int) (a2 cv au:Int) (ay:List Point) (_u:Unit) (stt:Int×(List Node)×(List Int)×(List Int)×(List (Au×Int))×(List (List UInt8×Int))):Option (Lp (Int×(List Node)×(List Int)×(List Int)×(List (Au×Int))×(List (List UInt8×Int))) (((List Node)×(List Int)×(List Int)×(List (Au×Int))×(List (List UInt8×Int))))):=match stt with
 | (a3,l,keyv,l1,mp,mp1) =>
  (bif (ltB a3 a2) then
   (m_totaltree_Totals_1_o p.s p.at_ a3 cv).bind fun y =>
   (rcv (⟨(bq .i64 p.at_ 1),⟨y.1,y.2⟩⟩:Au) a ae a8 av ah mp a2 cv mp1 au ay l).bind fun y1 =>
   (appL 8 l1 [y1.1]).bind fun _l2 =>
   (appL 1 keyv [32]).bind fun _l3 =>
   (m_strconv_AppendInt_o (keyv++[32]) y1.1 10).bind fun y2 =>
   some (.next ((bq .i64 a3 1),y1.2.2.2,y2,(l1++[y1.1]),y1.2.1,y1.2.2.1))
  else
   some (.out (l,keyv,l1,mp,mp1)))
def mb_totaltree_build_totaltree_sum_1_o_o_o_o_o_o_o_o (rcv:(Au->(List Point)->(List Point)->Int->(List Int)->(List Int)->(List (Au×Int))->Int->Int->(List (List UInt8×Int))->Int->(List Point)->(List Node)->Option (Int×(List (Au×Int))×(List (List UInt8×Int))×(List Node)))) (p:Au) (a ae:List Point) (a8:Int) (av ah:List Int) (a1:List (Au×Int)) (a2 cv:Int) (cv1:List (List UInt8×Int)) (au:Int) (ay:List Point) (aq:List Node):Option (Int×(List (Au×Int))×(List (List UInt8×Int))×(List Node)) :=
 (bif (eqB p.at_ (aO a)) then
  (m_totaltree_Totals_2 p.s (⟨ae,a8,av,ah⟩:Ar)).bind fun y =>
  some (y,a1,cv1,aq)
 else
  (kckL [p.at_,p.s.ones,p.s.centre]).bind fun u =>
  (bif (bE a1 p) then
   some ((e9 a1 p 0),a1,cv1,aq)
  else
   (aT (b_totaltree_build_totaltree_sum_1_o_o_o_o_o_o_o_o_1 rcv p a ae a8 av ah a2 cv au ay u) b7 (0,aq,[(dz .u8 (aX .i64 (aO a) p.at_))],[],a1,cv1)).bind fun(l,keyv,l1,mp,mp1) =>
   (kckS (ofBytes keyv)).bind fun _u1 =>
   ((bif (ba (bE mp1 (ofBytes keyv))) then
    (appL 32 l [(⟨(aX .i64 (aO a) p.at_),l1⟩:Node)]).bind fun _l2 =>
    some ((aO l),(dm mp1 (ofBytes keyv) (aO l)),(l++[(⟨(aX .i64 (aO a) p.at_),l1⟩:Node)]))
   else
    some ((e9 mp1 (ofBytes keyv) 0),mp1,l))).bind fun(idv,mp2,l2) =>
   some (idv,(dm mp p idv),mp2,l2)))
def m_totaltree_build_totaltree_sum_1_o_o_o_o_o_o_o_o (p:Au) (a ae:List Point) (a8:Int) (av ah:List Int) (a1:List (Au×Int)) (a2 cv:Int) (cv1:List (List UInt8×Int)) (au:Int) (ay:List Point) (aq:List Node):Option (Int×(List (Au×Int))×(List (List UInt8×Int))×(List Node)):=recN mb_totaltree_build_totaltree_sum_1_o_o_o_o_o_o_o_o (fun _ _ _ _ _ _ _ _ _ _ _ _ _=>none) recF p a ae a8 av ah a1 a2 cv cv1 au ay aq
def m_totaltree_build_totaltree_sum_totaltree_Totals_1_o_totaltree_Totals_2_o (states:Int) (l:List Point) (start:As) (cv:Int) (ae:List Point) (a8:Int) (av ah:List Int):Option (List Node) :=
 (m_totaltree_build_totaltree_sum_1_o_o_o_o_o_o_o_o (⟨0,⟨start.ones,start.centre⟩⟩:Au) l ae a8 av ah [] states cv [] states l []).bind fun y =>
 some y.2.2.2
def m_totaltree_Totals (x:Ar):Option (Tree×Int) :=
 (m_lifelike_Right x).bind fun y =>
 (bif (ba y) then
  some ((⟨0,[],[]⟩:Tree),2)
 else
  (m_hood_Centre x.Hood).bind fun y1 =>
  (m_slices_Clone_api_Point_api_Point x.Hood).bind fun y2 =>
  (m_totaltree_build_totaltree_sum_totaltree_Totals_1_o_totaltree_Totals_2_o x.States y2 (⟨0,0⟩:As) y1 x.Hood x.States x.Birth x.Survive).bind fun y3 =>
  some ((⟨x.States,y2,y3⟩:Tree),0))
def b_wolfram_Elementary_1 (n:Int) (stt:Int×(List Int)):Option (Lp (Int×(List Int)) ((List Int))):=match stt with
 | (a1,l) =>
  (bif (ltB a1 8) then
   (ishr .i64 n a1).bind fun n1 =>
   (fK 8 l a1).bind fun _x =>
   some (.next ((bq .i64 a1 1),(l.set a1.toNat (iand .i64 n1 1))))
  else
   some (.out l))
def m_wolfram_Elementary (n:Int):Option ((Int×Int×Int×Int×Int×Int×Int×Int)×Int) :=
 ((bif (ltB n 0) then
  some true
 else
  some (gtB n 255))).bind fun a =>
 (bif a then
  (arr8 [0,0,0,0,0,0,0,0]).bind fun arr =>
  some (arr,5)
 else
  (aT (b_wolfram_Elementary_1 n) b7 (0,[0,0,0,0,0,0,0,0])).bind fun l =>
  (arr8 l).bind fun arr =>
  some (arr,0))
def m_totaltree_row:Option (List Point) :=
 some [(⟨(-1),0⟩:Point),(⟨0,0⟩:Point),(⟨1,0⟩:Point)]
def m_totaltree_Elementary_2 (i:Int) (a:Int×Int×Int×Int×Int×Int×Int×Int):Option (Int) :=
 (fK 8 [a.1,a.2.1,a.2.2.1,a.2.2.2.1,a.2.2.2.2.1,a.2.2.2.2.2.1,a.2.2.2.2.2.2.1,a.2.2.2.2.2.2.2] i).bind fun x =>
 some x
def m_totaltree_Elementary_1 (i _at_ state:Int):Option (Int) :=
 some (bq .i64 (imul .i64 2 i) state)
def b_totaltree_build_int_1_o_o_o_o_o_o_o_o_1 (rcv:(Av->(List Point)->Int->Int->Int->Int->Int->Int->Int->Int->(List (Av×Int))->Int->(List (List UInt8×Int))->Int->(List Point)->(List Node)->Option (Int×(List (Av×Int))×(List (List UInt8×Int))×(List Node)))) (p:Av) (a:List Point) (cv1 aA aw ar ai ag ac ab a2 a8:Int) (ae:List Point) (_u:Unit) (stt:Int×(List Node)×(List Int)×(List Int)×(List (Av×Int))×(List (List UInt8×Int))):Option (Lp (Int×(List Node)×(List Int)×(List Int)×(List (Av×Int))×(List (List UInt8×Int))) (((List Node)×(List Int)×(List Int)×(List (Av×Int))×(List (List UInt8×Int))))):=match stt with
 | (a3,l,keyv,l1,mp,mp1) =>
  (bif (ltB a3 a2) then
   (m_totaltree_Elementary_1 p.s p.at_ a3).bind fun y =>
   (rcv (⟨(bq .i64 p.at_ 1),y⟩:Av) a cv1 aA aw ar ai ag ac ab mp a2 mp1 a8 ae l).bind fun y1 =>
   (appL 8 l1 [y1.1]).bind fun _l2 =>
   (appL 1 keyv [32]).bind fun _l3 =>
   (m_strconv_AppendInt_o (keyv++[32]) y1.1 10).bind fun y2 =>
   some (.next ((bq .i64 a3 1),y1.2.2.2,y2,(l1++[y1.1]),y1.2.1,y1.2.2.1))
  else
   some (.out (l,keyv,l1,mp,mp1)))
def mb_totaltree_build_int_1_o_o_o_o_o_o_o_o (rcv:(Av->(List Point)->Int->Int->Int->Int->Int->Int->Int->Int->(List (Av×Int))->Int->(List (List UInt8×Int))->Int->(List Point)->(List Node)->Option (Int×(List (Av×Int))×(List (List UInt8×Int))×(List Node)))) (p:Av) (a:List Point) (cv1 aA aw ar ai ag ac ab:Int) (a1:List (Av×Int)) (a2:Int) (cv:List (List UInt8×Int)) (a8:Int) (ae:List Point) (aq:List Node):Option (Int×(List (Av×Int))×(List (List UInt8×Int))×(List Node)) :=
 (bif (eqB p.at_ (aO a)) then
  (m_totaltree_Elementary_2 p.s ((cv1,aA,aw,ar,ai,ag,ac,ab):Int×Int×Int×Int×Int×Int×Int×Int)).bind fun y =>
  some (y,a1,cv,aq)
 else
  (kckL [p.at_,p.s]).bind fun u =>
  (bif (bE a1 p) then
   some ((e9 a1 p 0),a1,cv,aq)
  else
   (aT (b_totaltree_build_int_1_o_o_o_o_o_o_o_o_1 rcv p a cv1 aA aw ar ai ag ac ab a2 a8 ae u) b7 (0,aq,[(dz .u8 (aX .i64 (aO a) p.at_))],[],a1,cv)).bind fun(l,keyv,l1,mp,mp1) =>
   (kckS (ofBytes keyv)).bind fun _u1 =>
   ((bif (ba (bE mp1 (ofBytes keyv))) then
    (appL 32 l [(⟨(aX .i64 (aO a) p.at_),l1⟩:Node)]).bind fun _l2 =>
    some ((aO l),(dm mp1 (ofBytes keyv) (aO l)),(l++[(⟨(aX .i64 (aO a) p.at_),l1⟩:Node)]))
   else
    some ((e9 mp1 (ofBytes keyv) 0),mp1,l))).bind fun(idv,mp2,l2) =>
   some (idv,(dm mp p idv),mp2,l2)))
def m_totaltree_build_int_1_o_o_o_o_o_o_o_o (p:Av) (a:List Point) (cv1 aA aw ar ai ag ac ab:Int) (a1:List (Av×Int)) (a2:Int) (cv:List (List UInt8×Int)) (a8:Int) (ae:List Point) (aq:List Node):Option (Int×(List (Av×Int))×(List (List UInt8×Int))×(List Node)):=recN mb_totaltree_build_int_1_o_o_o_o_o_o_o_o (fun _ _ _ _ _ _ _ _ _ _ _ _ _ _ _ _=>none) recF p a cv1 aA aw ar ai ag ac ab a1 a2 cv a8 ae aq
def m_totaltree_build_int_totaltree_Elementary_1_totaltree_Elementary_2_o (states:Int) (l:List Point) (start cv1 aA aw ar ai ag ac ab:Int):Option (List Node) :=
 (m_totaltree_build_int_1_o_o_o_o_o_o_o_o (⟨0,start⟩:Av) l cv1 aA aw ar ai ag ac ab [] states [] states l []).bind fun y =>
 some y.2.2.2
def m_totaltree_Elementary (n:Int):Option (Tree×Int) :=
 (m_wolfram_Elementary n).bind fun y =>
 (bif (neB y.2 0) then
  some ((⟨0,[],[]⟩:Tree),y.2)
 else
  (m_totaltree_row).bind fun y1 =>
  (m_totaltree_build_int_totaltree_Elementary_1_totaltree_Elementary_2_o 2 y1 0 y.1.1 y.1.2.1 y.1.2.2.1 y.1.2.2.2.1 y.1.2.2.2.2.1 y.1.2.2.2.2.2.1 y.1.2.2.2.2.2.2.1 y.1.2.2.2.2.2.2.2).bind fun y2 =>
  some ((⟨2,y1,y2⟩:Tree),0))
def m_totaltree_Sums_2 (s:Int) (a:List Int):Option (Int) :=
 (idx a s).bind fun x =>
 some x
def m_totaltree_Sums_1 (s _at_ state:Int):Option (Int) :=
 some (bq .i64 s state)
def b_totaltree_build_int_1_o_o_o_o_o_o_o_ox_1 (rcv:(Av->(List Point)->(List Int)->(List (Av×Int))->Int->(List (List UInt8×Int))->Int->(List Point)->(List Node)->Option (Int×(List (Av×Int))×(List (List UInt8×Int))×(List Node)))) (p:Av) (a:List Point) (cv:List Int) (a2 a8:Int) (ae:List Point) (_u:Unit) (stt:Int×(List Node)×(List Int)×(List Int)×(List (Av×Int))×(List (List UInt8×Int))):Option (Lp (Int×(List Node)×(List Int)×(List Int)×(List (Av×Int))×(List (List UInt8×Int))) (((List Node)×(List Int)×(List Int)×(List (Av×Int))×(List (List UInt8×Int))))):=match stt with
 | (a3,l,keyv,l1,mp,mp1) =>
  (bif (ltB a3 a2) then
   (m_totaltree_Sums_1 p.s p.at_ a3).bind fun y =>
   (rcv (⟨(bq .i64 p.at_ 1),y⟩:Av) a cv mp a2 mp1 a8 ae l).bind fun y1 =>
   (appL 8 l1 [y1.1]).bind fun _l2 =>
   (appL 1 keyv [32]).bind fun _l3 =>
   (m_strconv_AppendInt_o (keyv++[32]) y1.1 10).bind fun y2 =>
   some (.next ((bq .i64 a3 1),y1.2.2.2,y2,(l1++[y1.1]),y1.2.1,y1.2.2.1))
  else
   some (.out (l,keyv,l1,mp,mp1)))
def mb_totaltree_build_int_1_o_o_o_o_o_o_o_ox (rcv:(Av->(List Point)->(List Int)->(List (Av×Int))->Int->(List (List UInt8×Int))->Int->(List Point)->(List Node)->Option (Int×(List (Av×Int))×(List (List UInt8×Int))×(List Node)))) (p:Av) (a:List Point) (cv:List Int) (a1:List (Av×Int)) (a2:Int) (cv1:List (List UInt8×Int)) (a8:Int) (ae:List Point) (aq:List Node):Option (Int×(List (Av×Int))×(List (List UInt8×Int))×(List Node)) :=
 (bif (eqB p.at_ (aO a)) then
  (m_totaltree_Sums_2 p.s cv).bind fun y =>
  some (y,a1,cv1,aq)
 else
  (kckL [p.at_,p.s]).bind fun u =>
  (bif (bE a1 p) then
   some ((e9 a1 p 0),a1,cv1,aq)
  else
   (aT (b_totaltree_build_int_1_o_o_o_o_o_o_o_ox_1 rcv p a cv a2 a8 ae u) b7 (0,aq,[(dz .u8 (aX .i64 (aO a) p.at_))],[],a1,cv1)).bind fun(l,keyv,l1,mp,mp1) =>
   (kckS (ofBytes keyv)).bind fun _u1 =>
   ((bif (ba (bE mp1 (ofBytes keyv))) then
    (appL 32 l [(⟨(aX .i64 (aO a) p.at_),l1⟩:Node)]).bind fun _l2 =>
    some ((aO l),(dm mp1 (ofBytes keyv) (aO l)),(l++[(⟨(aX .i64 (aO a) p.at_),l1⟩:Node)]))
   else
    some ((e9 mp1 (ofBytes keyv) 0),mp1,l))).bind fun(idv,mp2,l2) =>
   some (idv,(dm mp p idv),mp2,l2)))
def m_totaltree_build_int_1_o_o_o_o_o_o_o_ox (p:Av) (a:List Point) (cv:List Int) (a1:List (Av×Int)) (a2:Int) (cv1:List (List UInt8×Int)) (a8:Int) (ae:List Point) (aq:List Node):Option (Int×(List (Av×Int))×(List (List UInt8×Int))×(List Node)):=recN mb_totaltree_build_int_1_o_o_o_o_o_o_o_ox (fun _ _ _ _ _ _ _ _ _=>none) recF p a cv a1 a2 cv1 a8 ae aq
def m_totaltree_build_int_totaltree_Sums_1_totaltree_Sums_2_o (states:Int) (l:List Point) (start:Int) (cv:List Int):Option (List Node) :=
 (m_totaltree_build_int_1_o_o_o_o_o_o_o_ox (⟨0,start⟩:Av) l cv [] states [] states l []).bind fun y =>
 some y.2.2.2
def m_totaltree_Sums (states n:Int):Option (Tree×Int) :=
 (m_wolfram_Digits states n).bind fun y =>
 (bif (neB y.2 0) then
  some ((⟨0,[],[]⟩:Tree),y.2)
 else
  (m_totaltree_row).bind fun y1 =>
  (m_totaltree_build_int_totaltree_Sums_1_totaltree_Sums_2_o states y1 0 y.1).bind fun y2 =>
  some ((⟨states,y1,y2⟩:Tree),0))
def m_notation_Parse (s:List UInt8):Option (Tree×Int) :=
 (m_notation_Kind s).bind fun y =>
 ((bif (eqB y 1) then
  some (eqB y 1)
 else
  some (eqB y 2))).bind fun a =>
 (bif a then
  (bif (eqB y 2) then
   (m_generations_Parse s).bind fun y1 =>
   (bif (neB y1.2 0) then
    some ((⟨0,[],[]⟩:Tree),y1.2)
   else
    (m_totaltree_Totals y1.1).bind fun y2 =>
    some (y2.1,y2.2))
  else
   (m_lifelike_Parse s).bind fun y1 =>
   (bif (neB y1.2 0) then
    some ((⟨0,[],[]⟩:Tree),y1.2)
   else
    (m_totaltree_Totals y1.1).bind fun y2 =>
    some (y2.1,y2.2)))
 else
  ((bif (eqB y 3) then
   some (eqB y 3)
  else
   some (eqB y 4))).bind fun a1 =>
  (bif a1 then
   (m_wolfram_Parse s).bind fun y1 =>
   (bif (neB y1.2.2.2 0) then
    some ((⟨0,[],[]⟩:Tree),y1.2.2.2)
   else
    (bif (eqB y 3) then
     (m_totaltree_Elementary y1.2.1).bind fun y2 =>
     some (y2.1,y2.2)
    else
     (m_totaltree_Sums y1.1 y1.2.1).bind fun y2 =>
     some (y2.1,y2.2)))
  else
   (bif (eqB y 5) then
    none
   else
    some ((⟨0,[],[]⟩:Tree),7))))
def dgB (n:Int):UInt8:=UInt8.ofNat (Go.RowKit.wrap64 (48+n) % 256).toNat
def m_lifelike_Text (t:Ar):Option (List UInt8):=(m_lifelike_Right t).bind fun ok =>
 bif ba ok then some [] else bif neB t.States 2 then some [] else
 bif Nat.ble (t.Birth.length+t.Survive.length) 1000000 then (m_lifelike_letter t.Hood).bind fun r=>bif Nat.ble r.1.length 1000000 then some (([66]++t.Birth.map dgB++([47,83]++t.Survive.map dgB))++r.1) else none else none
def m_generations_Plain (t:Ar):Option (Ar) :=
 (m_lifelike_Right t).bind fun y =>
 (bif (ba y) then
  some (⟨[],0,[],[]⟩:Ar)
 else
  some (⟨t.Hood,2,t.Birth,t.Survive⟩:Ar))
def m_internal_strconv_small (i:Int):Option (List UInt8) :=
 (bif (ltB i 10) then
  (fA ([48,49,50,51,52,53,54,55,56,57,97,98,99,100,101,102,103,104,105,106,107,108,109,110,111,112,113,114,115,116,117,118,119,120,121,122]:List UInt8) i (bq .i64 i 1)).bind fun s =>
  some s
 else
  (fA ([48,48,48,49,48,50,48,51,48,52,48,53,48,54,48,55,48,56,48,57,49,48,49,49,49,50,49,51,49,52,49,53,49,54,49,55,49,56,49,57,50,48,50,49,50,50,50,51,50,52,50,53,50,54,50,55,50,56,50,57,51,48,51,49,51,50,51,51,51,52,51,53,51,54,51,55,51,56,51,57,52,48,52,49,52,50,52,51,52,52,52,53,52,54,52,55,52,56,52,57,53,48,53,49,53,50,53,51,53,52,53,53,53,54,53,55,53,56,53,57,54,48,54,49,54,50,54,51,54,52,54,53,54,54,54,55,54,56,54,57,55,48,55,49,55,50,55,51,55,52,55,53,55,54,55,55,55,56,55,57,56,48,56,49,56,50,56,51,56,52,56,53,56,54,56,55,56,56,56,57,57,48,57,49,57,50,57,51,57,52,57,53,57,54,57,55,57,56,57,57]:List UInt8) (imul .i64 i 2) (bq .i64 (imul .i64 i 2) 2)).bind fun s =>
  some s)
def m_internal_strconv_FormatInt (i base:Int):Option (List UInt8) :=
 (bif (eqB base 10) then
  ((bif (leB 0 i) then
   some (ltB i 100)
  else
   some false)).bind fun a =>
  (bif a then
   (m_internal_strconv_small i).bind fun y =>
   some y
  else
   ((bif (ltB i 0) then
    some (ineg .u64 (dz .u64 i))
   else
    some (dz .u64 i))).bind fun _u =>
   none)
 else
  none)
def m_internal_strconv_Itoa (i:Int):Option (List UInt8) :=
 (m_internal_strconv_FormatInt i 10).bind fun y =>
 some y
def m_strconv_Itoa (i:Int):Option (List UInt8) :=
 (m_internal_strconv_Itoa i).bind fun y =>
 some y
def m_generations_Text (t:Ar):Option (List UInt8) :=
 ((m_lifelike_Right t).bind fun y =>
 (bif (ba y) then
  some true
 else
  some (ltB t.States 3))).bind fun a =>
 (bif a then
  some ([]:List UInt8)
 else
  (m_generations_Plain t).bind fun y =>
  (m_lifelike_Text y).bind fun y1 =>
  ((fA y1 (aX .i64 (bu y1) 1) (bu y1)).bind fun s =>
  ((bif (eqS s ([86]:List UInt8)) then
   some true
  else
   some (eqS s ([72]:List UInt8)))).bind fun a1 =>
  (bif a1 then
   (fA y1 0 (aX .i64 (bu y1) 1)).bind fun s1 =>
   some (s1,s)
  else
   some (y1,([]:List UInt8)))).bind fun(s,end_) =>
  (catS s ([47,67]:List UInt8)).bind fun s1 =>
  (m_strconv_Itoa t.States).bind fun y2 =>
  (catS s1 y2).bind fun s2 =>
  (catS s2 end_).bind fun s3 =>
  some s3)
def m_notation_Canon (s:List UInt8):Option ((List UInt8)×Int) :=
 ((m_notation_Kind s).bind fun y =>
 (bif (eqB y 1) then
  (m_lifelike_Parse s).bind fun y1 =>
  (m_lifelike_Text y1.1).bind fun y2 =>
  some (y2,y1.2)
 else
  (bif (eqB y 2) then
   (m_generations_Parse s).bind fun y1 =>
   (m_generations_Text y1.1).bind fun y2 =>
   some (y2,y1.2)
  else
   ((bif (eqB y 3) then
    some (eqB y 3)
   else
    some (eqB y 4))).bind fun a =>
   (bif a then
    (m_wolfram_Parse s).bind fun y1 =>
    some (s,y1.2.2.2)
   else
    (bif (eqB y 5) then
     none
    else
     some (([]:List UInt8),7)))))).bind fun(out,e_) =>
 (bif (neB e_ 0) then
  some (([]:List UInt8),e_)
 else
  some (out,0))
def b_tree_Right_2 (t:Tree) (a1:Int) (x:Node) (stt:Int):Option (Lp (Int) (Bool ⊕ Unit)):=match stt with
 | a3 =>
  (bif (ltB a3 (aO x.Next)) then
   (idx x.Next a3).bind fun x1 =>
   ((bif (ltB x1 0) then
    some true
   else
    (bif (eqB x.Level 1) then
     (bif (geB x1 t.States) then
      some true
     else
      (bif (gtB x.Level 1) then
       (bif (geB x1 a1) then
        some true
       else
        (idx t.Nodes x1).bind fun x2 =>
        some (neB x2.Level (aX .i64 x.Level 1)))
      else
       some false))
    else
     (bif (gtB x.Level 1) then
      (bif (geB x1 a1) then
       some true
      else
       (idx t.Nodes x1).bind fun x2 =>
       some (neB x2.Level (aX .i64 x.Level 1)))
     else
      some false)))).bind fun a4 =>
   (bif a4 then
    some (.out (.inl false))
   else
    some (.next (bq .i64 a3 1)))
  else
   some (.out (.inr ())))
def b_tree_Right_1 (t:Tree) (stt:Int):Option (Lp (Int) (Bool ⊕ Unit)):=match stt with
 | a1 =>
  (bif (ltB a1 (aO t.Nodes)) then
   (idx t.Nodes a1).bind fun x =>
   ((bif (ltB x.Level 1) then
    some true
   else
    (bif (gtB x.Level (aO t.Hood)) then
     some true
    else
     some (neB (aO x.Next) t.States)))).bind fun a2 =>
   (bif a2 then
    some (.out (.inl false))
   else
    (aT (b_tree_Right_2 t a1 x) b7 0).bind fun o=>match o with
     | .inl r =>
      some (.out (.inl r))
     | .inr _u =>
      some (.next (bq .i64 a1 1)))
  else
   some (.out (.inr ())))
def m_tree_Right (t:Tree):Option (Bool) :=
 ((bif (ltB t.States 2) then
  some true
 else
  (bif (gtB t.States 8) then
   some true
  else
   (m_hood_Right t.Hood).bind fun y =>
   (bif (ba y) then
    some true
   else
    (bif (ltB (aO t.Nodes) 1) then
     some true
    else
     (bif (gtB (aO t.Nodes) 4096) then
      some true
     else
      (idx t.Nodes (aX .i64 (aO t.Nodes) 1)).bind fun x =>
      some (neB x.Level (aO t.Hood)))))))).bind fun a =>
 (bif a then
  some false
 else
  (aT (b_tree_Right_1 t) b7 0).bind fun o=>match o with
   | .inl r =>
    some r
   | .inr _u =>
    some true)
def m_tree_Eval_1 (s:Int) (a:Tree):Option (Bool) :=
 ((bif (ltB s 0) then
  some true
 else
  some (geB s a.States))).bind fun a1 =>
 some a1
def b_slices_IndexFunc_int_int_tree_Eval_1_1 (s:List Int) (cv:Tree) (stt:Int):Option (Lp (Int) (Int ⊕ Unit)):=match stt with
 | a =>
  (bif (ltB a (aO s)) then
   (idx s a).bind fun x =>
   (m_tree_Eval_1 x cv).bind fun y =>
   (bif y then
    some (.out (.inl a))
   else
    some (.next (bq .i64 a 1)))
  else
   some (.out (.inr ())))
def m_slices_IndexFunc_int_int_tree_Eval_1 (s:List Int) (cv:Tree):Option (Int) :=
 (aT (b_slices_IndexFunc_int_int_tree_Eval_1_1 s cv) b7 0).bind fun o=>match o with
  | .inl r =>
   some r
  | .inr _u =>
   some (-1)
def m_slices_ContainsFunc_int_int_tree_Eval_1 (s:List Int) (cv:Tree):Option (Bool) :=
 (m_slices_IndexFunc_int_int_tree_Eval_1 s cv).bind fun y =>
 some (geB y 0)
def b_tree_value_1 (t:Tree) (in_:List Int) (stt:Int×Int):Option (Lp (Int×Int) (Int)):=match stt with
 | (k,a) =>
  (bif (ltB a (aO in_)) then
   (idx in_ a).bind fun x =>
   (idx t.Nodes k).bind fun x1 =>
   (idx x1.Next x).bind fun x2 =>
   some (.next (x2,(bq .i64 a 1)))
  else
   some (.out k))
def m_tree_value (t:Tree) (in_:List Int):Option (Int) :=
 (aT (b_tree_value_1 t in_) b7 ((aX .i64 (aO t.Nodes) 1),0)).bind fun k =>
 some k
def m_tree_Eval (t:Tree) (in_:List Int):Option (Int×Int) :=
 (m_tree_Right t).bind fun y =>
 (bif (ba y) then
  some (0,11)
 else
  (bif (neB (aO in_) (aO t.Hood)) then
   some (0,2)
  else
   (m_slices_ContainsFunc_int_int_tree_Eval_1 in_ t).bind fun y1 =>
   (bif y1 then
    some (0,10)
   else
    (m_tree_value t in_).bind fun y2 =>
    some (y2,0))))
def m_slices_Clone_int_int (l:List Int):Option (List Int):=appL 8 [] l
def m_reduce_Reduce_1 (_x:Int) (next:List Int):Option (List Int) :=
 some next
def m_internal_strconv_AppendInt_N (i base:Int):Option (List Int) :=
 ((bif (ltB i 0) then
  (appL 1 [] [45]).bind fun _l =>
  some ((ineg .u64 (dz .u64 i)),([]++[45]))
 else
  some ((dz .u64 i),[]))).bind fun(u,dst) =>
 (m_internal_strconv_AppendUint_o dst u base).bind fun y =>
 some y
def m_strconv_AppendInt_N (i base:Int):Option (List Int) :=
 (m_internal_strconv_AppendInt_N i base).bind fun y =>
 some y
def b_reduce_builder_node_o_1 (_am:List Node) (_aa:List (List UInt8×Int)) (_level:Int) (next:List Int) (stt:Int×(List Int)):Option (Lp (Int×(List Int)) ((List Int))):=match stt with
 | (a,keyv) =>
  (bif (ltB a (aO next)) then
   (idx next a).bind fun x =>
   (appL 1 keyv [32]).bind fun _l =>
   (m_strconv_AppendInt_o (keyv++[32]) x 10).bind fun y1 =>
   some (.next ((bq .i64 a 1),y1))
  else
   some (.out keyv))
def m_reduce_builder_node_o (am:List Node) (aa:List (List UInt8×Int)) (level:Int) (next:List Int):Option (Int×(List (List UInt8×Int))×(List Node)) :=
 (m_strconv_AppendInt_N level 10).bind fun y =>
 (aT (b_reduce_builder_node_o_1 am aa level next) b7 (0,y)).bind fun keyv =>
 (kckS (ofBytes keyv)).bind fun _u =>
 (bif (bE aa (ofBytes keyv)) then
  some ((e9 aa (ofBytes keyv) 0),aa,am)
 else
  (appL 32 am [(⟨level,next⟩:Node)]).bind fun _l =>
  some ((aX .i64 ((aO am)+1) 1),(dm aa (ofBytes keyv) (aX .i64 ((aO am)+1) 1)),(am++[(⟨level,next⟩:Node)])))
def b_reduce_ordered_1_o_o_o_o_1 (rcv:(Int->(List Int)->(List Node)->(List Node)->Option (Int×(List Int)×(List Node)))) (_k:Int) (a1:List Node) (x1:Node) (y:List Int) (stt:Int×(List Int)×(List Node)×(List Int)):Option (Lp (Int×(List Int)×(List Node)×(List Int)) (((List Int)×(List Node)×(List Int)))):=match stt with
 | (a2,l,l2,l1) =>
  (bif (ltB a2 (aO y)) then
   ((idx l a2).bind fun x2 =>
   (bif (gtB x1.Level 1) then
    (rcv x2 l1 a1 l2).bind fun y1 =>
    some ((l.set a2.toNat y1.1),y1.2.1,y1.2.2)
   else
    some (l,l1,l2))).bind fun(l3,l4,l5) =>
   some (.next ((bq .i64 a2 1),l3,l5,l4))
  else
   some (.out (l,l2,l1)))
def mb_reduce_ordered_1_o_o_o_o (rcv:(Int->(List Int)->(List Node)->(List Node)->Option (Int×(List Int)×(List Node)))) (k:Int) (a:List Int) (a1 cv:List Node):Option (Int×(List Int)×(List Node)) :=
 (idx a k).bind fun x =>
 (bif (gtB x 0) then
  some ((aX .i64 x 1),a,cv)
 else
  (idx a1 k).bind fun x1 =>
  (m_slices_Clone_int_int x1.Next).bind fun y =>
  (aT (b_reduce_ordered_1_o_o_o_o_1 rcv k a1 x1 y) b7 (0,y,cv,a)).bind fun(l,l1,l2) =>
  (appL 32 l1 [(⟨x1.Level,l⟩:Node)]).bind fun _l3 =>
  (idx l2 k).bind fun _x2 =>
  some ((aX .i64 ((aO l1)+1) 1),(l2.set k.toNat ((aO l1)+1)),(l1++[(⟨x1.Level,l⟩:Node)])))
def m_reduce_ordered_1_o_o_o_o (k:Int) (a:List Int) (a1 cv:List Node):Option (Int×(List Int)×(List Node)):=recN mb_reduce_ordered_1_o_o_o_o (fun _ _ _ _=>none) recF k a a1 cv
def m_reduce_ordered (nodes:List Node) (root:Int):Option (List Node) :=
 (mkL 8 (aO nodes) (aO nodes) 0).bind fun _l =>
 (m_reduce_ordered_1_o_o_o_o root (List.replicate (aO nodes).toNat 0) nodes []).bind fun y =>
 some y.2.2
def b_reduce_rebuilt_reduce_Reduce_1_w_2 (_t:Tree) (_a:Int) (_mp:List (List UInt8×Int)) (_l:List Node) (to_:List Int) (x:Node) (y:List Int) (stt:Int×(List Int)):Option (Lp (Int×(List Int)) ((List Int))):=match stt with
 | (a1,next) =>
  (bif (ltB a1 (aO y)) then
   ((idx next a1).bind fun x1 =>
   (bif (gtB x.Level 1) then
    (idx to_ x1).bind fun x2 =>
    some (next.set a1.toNat x2)
   else
    some next)).bind fun next1 =>
   some (.next ((bq .i64 a1 1),next1))
  else
   some (.out next))
def b_reduce_rebuilt_reduce_Reduce_1_w_1 (t:Tree) (stt:Int×(List (List UInt8×Int))×(List Node)×(List Int)):Option (Lp (Int×(List (List UInt8×Int))×(List Node)×(List Int)) (((List (List UInt8×Int))×(List Node)×(List Int)))):=match stt with
 | (a,mp,l,to_) =>
  (bif (ltB a (aO t.Nodes)) then
   (idx t.Nodes a).bind fun x =>
   (m_slices_Clone_int_int x.Next).bind fun y =>
   (aT (b_reduce_rebuilt_reduce_Reduce_1_w_2 t a mp l to_ x y) b7 (0,y)).bind fun next =>
   (m_reduce_Reduce_1 x.Level next).bind fun y1 =>
   (m_reduce_builder_node_o l mp x.Level y1).bind fun y2 =>
   (appL 8 to_ [y2.1]).bind fun _l1 =>
   some (.next ((bq .i64 a 1),y2.2.1,y2.2.2,(to_++[y2.1])))
  else
   some (.out (mp,l,to_)))
def m_reduce_rebuilt_reduce_Reduce_1_w (t:Tree):Option (List Node) :=
 (aT (b_reduce_rebuilt_reduce_Reduce_1_w_1 t) b7 (0,[],[],[])).bind fun(_mp,l,to_) =>
 (m_slices_Clone_api_Point_api_Point t.Hood).bind fun _l1 =>
 (idx to_ (aX .i64 (aO to_) 1)).bind fun x =>
 (m_reduce_ordered l x).bind fun y =>
 some y
def m_reduce_Reduce_w (t:Tree):Option (Int×(List Node)×(List Point)) :=
 (m_tree_Right t).bind fun y =>
 (bif (ba y) then
  some (0,[],[])
 else
  (m_reduce_rebuilt_reduce_Reduce_1_w t).bind fun y1 =>
  some (t.States,y1,t.Hood))
def m_symmetry_Apply (k:Int) (p:Point):Option (Point) :=
 (fK 8 g0R (iand .i64 k 7)).bind fun x =>
 some (⟨(bq .i64 (imul .i64 x.1 p.X) (imul .i64 x.2.1 p.Y)),(bq .i64 (imul .i64 x.2.2.1 p.X) (imul .i64 x.2.2.2 p.Y))⟩:Point)
def b_reduce_builder_node_o_o_1 (_am:List Node) (_aa:List (List UInt8×Int)) (_level:Int) (next:List Int) (stt:Int×(List Int)):Option (Lp (Int×(List Int)) ((List Int))):=match stt with
 | (a,keyv) =>
  (bif (ltB a (aO next)) then
   (idx next a).bind fun x =>
   (appL 1 keyv [32]).bind fun _l =>
   (m_strconv_AppendInt_o (keyv++[32]) x 10).bind fun y1 =>
   some (.next ((bq .i64 a 1),y1))
  else
   some (.out keyv))
def m_reduce_builder_node_o_o (am:List Node) (aa:List (List UInt8×Int)) (level:Int) (next:List Int):Option (Int×(List (List UInt8×Int))×(List Node)) :=
 (m_strconv_AppendInt_N level 10).bind fun y =>
 (aT (b_reduce_builder_node_o_o_1 am aa level next) b7 (0,y)).bind fun keyv =>
 (kckS (ofBytes keyv)).bind fun _u =>
 (bif (bE aa (ofBytes keyv)) then
  some ((e9 aa (ofBytes keyv) 0),aa,am)
 else
  (appL 32 am [(⟨level,next⟩:Node)]).bind fun _l =>
  some ((aX .i64 ((aO am)+1) 1),(dm aa (ofBytes keyv) (aX .i64 ((aO am)+1) 1)),(am++[(⟨level,next⟩:Node)])))
def b_reduce_swapped_o_w_3 (_ak:Int) (al:List Point) (aj:List Node) (i _a:Int) (to_:List Int) (x:Node) (a1:Int) (_mp1:List (List UInt8×Int)) (_next:List Int) (_l3:List Node) (stt:Int×(List Int)):Option (Lp (Int×(List Int)) ((List Int))):=match stt with
 | (a2,inner) =>
  (bif (ltB a2 (aO x.Next)) then
   ((idx x.Next a2).bind fun x2 =>
   (idx aj x2).bind fun x3 =>
   (idx x3.Next a1).bind fun x4 =>
   (idx inner a2).bind fun _x5 =>
   (bif (gtB (aX .i64 (aO al) i) 2) then
    (idx (inner.set a2.toNat x4) a2).bind fun x6 =>
    (idx to_ x6).bind fun x7 =>
    some ((inner.set a2.toNat x4).set a2.toNat x7)
   else
    some (inner.set a2.toNat x4))).bind fun inner1 =>
   some (.next ((bq .i64 a2 1),inner1))
  else
   some (.out inner))
def b_reduce_swapped_o_w_2 (ak:Int) (al:List Point) (aj:List Node) (i a:Int) (to_:List Int) (x:Node) (stt:Int×(List (List UInt8×Int))×(List Int)×(List Node)):Option (Lp (Int×(List (List UInt8×Int))×(List Int)×(List Node)) (((List (List UInt8×Int))×(List Int)×(List Node)))):=match stt with
 | (a1,mp1,next,l3) =>
  (bif (ltB a1 (aO x.Next)) then
   (idx x.Next a1).bind fun x1 =>
   (bif (eqB x.Level (aX .i64 (aO al) i)) then
    (mkL 8 ak ak 0).bind fun _l4 =>
    (aT (b_reduce_swapped_o_w_3 ak al aj i a to_ x a1 mp1 next l3) b7 (0,(List.replicate ak.toNat 0))).bind fun inner =>
    (m_reduce_builder_node_o_o l3 mp1 (aX .i64 (aX .i64 (aO al) i) 1) inner).bind fun y =>
    (idx next a1).bind fun _x2 =>
    some (.next ((bq .i64 a1 1),y.2.1,(next.set a1.toNat y.1),y.2.2))
   else
    (bif (gtB x.Level 1) then
     (idx to_ x1).bind fun x2 =>
     (idx next a1).bind fun _x3 =>
     some (.next ((bq .i64 a1 1),mp1,(next.set a1.toNat x2),l3))
    else
     (idx next a1).bind fun _x2 =>
     some (.next ((bq .i64 a1 1),mp1,(next.set a1.toNat x1),l3))))
  else
   some (.out (mp1,next,l3)))
def b_reduce_swapped_o_w_1 (ak:Int) (al:List Point) (aj:List Node) (i:Int) (stt:Int×(List (List UInt8×Int))×(List Int)×(List Node)):Option (Lp (Int×(List (List UInt8×Int))×(List Int)×(List Node)) (((List (List UInt8×Int))×(List Int)×(List Node)))):=match stt with
 | (a,mp,to_,l1) =>
  (bif (ltB a (aO aj)) then
   (idx aj a).bind fun x =>
   (bif (eqB x.Level (aX .i64 (aX .i64 (aO al) i) 1)) then
    some (.next ((bq .i64 a 1),mp,to_,l1))
   else
    (mkL 8 ak ak 0).bind fun _l2 =>
    (aT (b_reduce_swapped_o_w_2 ak al aj i a to_ x) b7 (0,mp,(List.replicate ak.toNat 0),l1)).bind fun(mp1,next,l3) =>
    (m_reduce_builder_node_o_o l3 mp1 x.Level next).bind fun y =>
    (idx to_ a).bind fun _x1 =>
    some (.next ((bq .i64 a 1),y.2.1,(to_.set a.toNat y.1),y.2.2)))
  else
   some (.out (mp,to_,l1)))
def m_reduce_swapped_o_w (ak:Int) (al:List Point) (aj:List Node) (i:Int):Option (List Node) :=
 (mkL 8 (aO aj) (aO aj) 0).bind fun _l =>
 (aT (b_reduce_swapped_o_w_1 ak al aj i) b7 (0,[],(List.replicate (aO aj).toNat 0),[])).bind fun(_mp,to_,l1) =>
 (idx to_ (aX .i64 (aO to_) 1)).bind fun x =>
 (m_reduce_ordered l1 x).bind fun y =>
 some y
def m_reduce_sized (t:Tree):Option (Tree×Int) :=
 (bif (gtB (aO t.Nodes) 4096) then
  some ((⟨0,[],[]⟩:Tree),6)
 else
  some (t,0))
def b_reduce_Turn_1 (k:Int) (y1:Int×(List Node)×(List Point)) (stt:Int×(List Point)):Option (Lp (Int×(List Point)) ((List Point))):=match stt with
 | (a,l) =>
  (bif (ltB a (aO y1.2.2)) then
   (idx l a).bind fun x =>
   (m_symmetry_Apply k x).bind fun y2 =>
   some (.next ((bq .i64 a 1),(l.set a.toNat y2)))
  else
   some (.out l))
def b_reduce_Turn_3 (y1:Int×(List Node)×(List Point)) (stt:Bool×Int×(List Node)×(List Point)):Option (Lp (Bool×Int×(List Node)×(List Point)) ((Bool×(List Node)×(List Point)))):=match stt with
 | (aG,i,aD,l2) =>
  (bif (ltB i (aO l2)) then
   ((idx l2 (aX .i64 i 1)).bind fun x =>
   (idx l2 i).bind fun x1 =>
   (m_point_Compare x x1).bind fun y2 =>
   (bif (gtB y2 0) then
    (m_reduce_swapped_o_w y1.1 l2 aD (aX .i64 i 1)).bind fun y3 =>
    (idx (l2.set (aX .i64 i 1).toNat x1) i).bind fun _x2 =>
    some (false,y3,((l2.set (aX .i64 i 1).toNat x1).set i.toNat x))
   else
    some (aG,aD,l2))).bind fun(sorted2,uNodes2,l3) =>
   some (.next (sorted2,(bq .i64 i 1),uNodes2,l3))
  else
   some (.out (aG,aD,l2)))
def b_reduce_Turn_2 (y1:Int×(List Node)×(List Point)) (stt:Bool×(List Node)×(List Point)):Option (Lp (Bool×(List Node)×(List Point)) (((List Node)×(List Point)))):=match stt with
 | (sorted,aH,l1) =>
  (bif (ba sorted) then
   (aT (b_reduce_Turn_3 y1) b7 (true,1,aH,l1)).bind fun(aG,aD,l2) =>
   some (.next (aG,aD,l2))
  else
   some (.out (aH,l1)))
def m_reduce_Turn (k:Int) (t:Tree):Option (Tree×Int) :=
 (m_tree_Right t).bind fun y =>
 (bif (ba y) then
  some ((⟨0,[],[]⟩:Tree),11)
 else
  (m_reduce_Reduce_w t).bind fun y1 =>
  (aT (b_reduce_Turn_1 k y1) b7 (0,y1.2.2)).bind fun l =>
  (aT (b_reduce_Turn_2 y1) b7 (false,y1.2.1,l)).bind fun(aH,l1) =>
  (m_reduce_sized (⟨y1.1,l1,aH⟩:Tree)).bind fun y2 =>
  some (y2.1,y2.2))
def b_reduce_rebuilt_reduce_Reduce_1_2 (_t:Tree) (_a:Int) (_mp:List (List UInt8×Int)) (_l:List Node) (to_:List Int) (x:Node) (y:List Int) (stt:Int×(List Int)):Option (Lp (Int×(List Int)) ((List Int))):=match stt with
 | (a1,next) =>
  (bif (ltB a1 (aO y)) then
   ((idx next a1).bind fun x1 =>
   (bif (gtB x.Level 1) then
    (idx to_ x1).bind fun x2 =>
    some (next.set a1.toNat x2)
   else
    some next)).bind fun next1 =>
   some (.next ((bq .i64 a1 1),next1))
  else
   some (.out next))
def b_reduce_rebuilt_reduce_Reduce_1_1 (t:Tree) (stt:Int×(List (List UInt8×Int))×(List Node)×(List Int)):Option (Lp (Int×(List (List UInt8×Int))×(List Node)×(List Int)) (((List (List UInt8×Int))×(List Node)×(List Int)))):=match stt with
 | (a,mp,l,to_) =>
  (bif (ltB a (aO t.Nodes)) then
   (idx t.Nodes a).bind fun x =>
   (m_slices_Clone_int_int x.Next).bind fun y =>
   (aT (b_reduce_rebuilt_reduce_Reduce_1_2 t a mp l to_ x y) b7 (0,y)).bind fun next =>
   (m_reduce_Reduce_1 x.Level next).bind fun y1 =>
   (m_reduce_builder_node_o l mp x.Level y1).bind fun y2 =>
   (appL 8 to_ [y2.1]).bind fun _l1 =>
   some (.next ((bq .i64 a 1),y2.2.1,y2.2.2,(to_++[y2.1])))
  else
   some (.out (mp,l,to_)))
def m_reduce_rebuilt_reduce_Reduce_1 (t:Tree):Option (Tree) :=
 (aT (b_reduce_rebuilt_reduce_Reduce_1_1 t) b7 (0,[],[],[])).bind fun(_mp,l,to_) =>
 (m_slices_Clone_api_Point_api_Point t.Hood).bind fun y =>
 (idx to_ (aX .i64 (aO to_) 1)).bind fun x =>
 (m_reduce_ordered l x).bind fun y1 =>
 some (⟨t.States,y,y1⟩:Tree)
def m_reduce_Reduce (t:Tree):Option (Tree) :=
 (m_tree_Right t).bind fun y =>
 (bif (ba y) then
  some (⟨0,[],[]⟩:Tree)
 else
  (m_reduce_rebuilt_reduce_Reduce_1 t).bind fun y1 =>
  some y1)
def b_slices_Equal_int_int_1 (sv1 sv2:List Int) (stt:Int):Option (Lp (Int) (Bool ⊕ Unit)):=match stt with
 | a =>
  (bif (ltB a (aO sv1)) then
   (idx sv1 a).bind fun x =>
   (idx sv2 a).bind fun x1 =>
   (bif (neB x x1) then
    some (.out (.inl false))
   else
    some (.next (bq .i64 a 1)))
  else
   some (.out (.inr ())))
def m_slices_Equal_int_int (sv1 sv2:List Int):Option (Bool) :=
 (bif (neB (aO sv1) (aO sv2)) then
  some false
 else
  (aT (b_slices_Equal_int_int_1 sv1 sv2) b7 0).bind fun o=>match o with
   | .inl r =>
    some r
   | .inr _u =>
    some true)
def m_tree_Same_1 (x y:Node):Option (Bool) :=
 ((bif (eqB x.Level y.Level) then
  (m_slices_Equal_int_int x.Next y.Next).bind fun y1 =>
  some y1
 else
  some false)).bind fun a =>
 some a
def b_slices_EqualFunc_api_Node_api_Node_api_Node_api_Node_tree_Same_1_1 (sv1 sv2:List Node) (stt:Int):Option (Lp (Int) (Bool ⊕ Unit)):=match stt with
 | a =>
  (bif (ltB a (aO sv1)) then
   (idx sv1 a).bind fun x =>
   (idx sv2 a).bind fun x1 =>
   (m_tree_Same_1 x x1).bind fun y =>
   (bif (ba y) then
    some (.out (.inl false))
   else
    some (.next (bq .i64 a 1)))
  else
   some (.out (.inr ())))
def m_slices_EqualFunc_api_Node_api_Node_api_Node_api_Node_tree_Same_1 (sv1 sv2:List Node):Option (Bool) :=
 (bif (neB (aO sv1) (aO sv2)) then
  some false
 else
  (aT (b_slices_EqualFunc_api_Node_api_Node_api_Node_api_Node_tree_Same_1_1 sv1 sv2) b7 0).bind fun o=>match o with
   | .inl r =>
    some r
   | .inr _u =>
    some true)
def m_tree_Same (a b:Tree):Option (Bool) :=
 ((bif (eqB a.States b.States) then
  (m_hood_Same a.Hood b.Hood).bind fun y =>
  (bif y then
   (m_slices_EqualFunc_api_Node_api_Node_api_Node_api_Node_tree_Same_1 a.Nodes b.Nodes).bind fun y1 =>
   some y1
  else
   some false)
 else
  some false)).bind fun a1 =>
 some a1
def m_reduce_Equal (a b:Tree):Option (Bool) :=
 ((m_tree_Right a).bind fun y =>
 (bif y then
  (m_tree_Right b).bind fun y1 =>
  (bif y1 then
   (bif (eqB a.States b.States) then
    (m_hood_Same a.Hood b.Hood).bind fun y2 =>
    (bif y2 then
     (m_reduce_Reduce a).bind fun y3 =>
     (m_reduce_Reduce b).bind fun y4 =>
     (m_tree_Same y3 y4).bind fun y5 =>
     some y5
    else
     some false)
   else
    some false)
  else
   some false)
 else
  some false)).bind fun a1 =>
 some a1
def b_notation_Syms_1 (t:Tree) (stt:Int×(List Int)):Option (Lp (Int×(List Int)) ((List Int))):=match stt with
 | (a,out) =>
  (bif (ltB a 8) then
   ((m_reduce_Turn a t).bind fun y =>
   ((bif (eqB y.2 0) then
    (m_reduce_Equal t y.1).bind fun y1 =>
    some y1
   else
    some false)).bind fun a1 =>
   (bif a1 then
    (appL 8 out [a]).bind fun _l =>
    some (out++[a])
   else
    some out)).bind fun out1 =>
   some (.next ((bq .i64 a 1),out1))
  else
   some (.out out))
def m_notation_Syms (t:Tree):Option (List Int) :=
 (aT (b_notation_Syms_1 t) b7 (0,[])).bind fun out =>
 some out
def b_L12_Ints_1 (a b:List Int) (stt:Int):Option (Lp (Int) (Bool ⊕ Unit)):=match stt with
 | a1 =>
  (bif (ltB a1 (aO a)) then
   (idx a a1).bind fun x =>
   (idx b a1).bind fun x1 =>
   (bif (neB x x1) then
    some (.out (.inl false))
   else
    some (.next (bq .i64 a1 1)))
  else
   some (.out (.inr ())))
def m_L12_Ints (a b:List Int):Option (Bool) :=
 (bif (neB (aO a) (aO b)) then
  some false
 else
  (aT (b_L12_Ints_1 a b) b7 0).bind fun o=>match o with
   | .inl r =>
    some r
   | .inr _u =>
    some true)
def m_L16_awake:Option (Bool) :=
 (m_notation_Parse ([66,51,47,83,50,51]:List UInt8)).bind fun y =>
 (m_notation_Parse ([66,50,47,83,51,52,72]:List UInt8)).bind fun y1 =>
 (m_notation_Parse ([87,49,49,48]:List UInt8)).bind fun y2 =>
 (m_notation_Parse ([66,57,47,83]:List UInt8)).bind fun y3 =>
 (m_notation_Parse ([108,105,102,101]:List UInt8)).bind fun y4 =>
 (m_notation_Canon ([47,50,47,51]:List UInt8)).bind fun y5 =>
 (m_tree_Eval y.1 [1,1,1,0,0,0,0,0,0]).bind fun y6 =>
 ((bif (neB y.2 0) then
  some true
 else
  (bif (neB y1.2 0) then
   some true
  else
   (bif (neB y2.2 0) then
    some true
   else
    (bif (neB y3.2 5) then
     some true
    else
     (bif (neB y4.2 7) then
      some true
     else
      (bif (neB y5.2 0) then
       some true
      else
       (bif (neB y6.2 0) then
        some true
       else
        (bif (neB y6.1 1) then
         some true
        else
         some (ba (eqS y5.1 ([66,50,47,83,47,67,51]:List UInt8)))))))))))).bind fun a =>
 (bif a then
  some false
 else
  ((m_notation_Kind ([66,51,47,83,50,51]:List UInt8)).bind fun y7 =>
  (bif (eqB y7 1) then
   (m_notation_Kind ([47,50,47,51]:List UInt8)).bind fun y8 =>
   (bif (eqB y8 2) then
    (m_notation_Kind ([87,51,48]:List UInt8)).bind fun y9 =>
    (bif (eqB y9 3) then
     (m_notation_Kind ([84,55,55,55,47,51]:List UInt8)).bind fun y10 =>
     (bif (eqB y10 4) then
      (m_notation_Kind ([98,51,47,115,50,51]:List UInt8)).bind fun y11 =>
      (bif (eqB y11 0) then
       (m_notation_Kind ([120,10]:List UInt8)).bind fun y12 =>
       (bif (eqB y12 5) then
        (m_notation_Syms y.1).bind fun y13 =>
        (bif (eqB (aO y13) 8) then
         (m_notation_Syms y1.1).bind fun y14 =>
         (m_L12_Ints y14 [0,2,5,7]).bind fun y15 =>
         (bif y15 then
          (m_notation_Syms y2.1).bind fun y16 =>
          (m_L12_Ints y16 [0,6]).bind fun y17 =>
          some y17
         else
          some false)
        else
         some false)
       else
        some false)
      else
       some false)
     else
      some false)
    else
     some false)
   else
    some false)
  else
   some false)).bind fun a1 =>
  some a1)
def m_slices_Contains_api_Point_api_Point (s:List Point) (v:Point):Option (Bool) :=
 (m_slices_Index_api_Point_api_Point s v).bind fun y =>
 some (geB y 0)
def m_hood_Syms_1 (p:Point) (a:List Point) (a1:Int):Option (Bool) :=
 (m_symmetry_Apply a1 p).bind fun y =>
 (m_slices_Contains_api_Point_api_Point a y).bind fun y1 =>
 some (ba y1)
def b_slices_IndexFunc_api_Point_api_Point_hood_Syms_1_1 (s cv:List Point) (cv1 stt:Int):Option (Lp (Int) (Int ⊕ Unit)):=match stt with
 | a =>
  (bif (ltB a (aO s)) then
   (idx s a).bind fun x =>
   (m_hood_Syms_1 x cv cv1).bind fun y =>
   (bif y then
    some (.out (.inl a))
   else
    some (.next (bq .i64 a 1)))
  else
   some (.out (.inr ())))
def m_slices_IndexFunc_api_Point_api_Point_hood_Syms_1 (s cv:List Point) (cv1:Int):Option (Int) :=
 (aT (b_slices_IndexFunc_api_Point_api_Point_hood_Syms_1_1 s cv cv1) b7 0).bind fun o=>match o with
  | .inl r =>
   some r
  | .inr _u =>
   some (-1)
def m_slices_ContainsFunc_api_Point_api_Point_hood_Syms_1 (s cv:List Point) (cv1:Int):Option (Bool) :=
 (m_slices_IndexFunc_api_Point_api_Point_hood_Syms_1 s cv cv1).bind fun y =>
 some (geB y 0)
def b_hood_Syms_1 (l:List Point) (stt:Int×(List Int)):Option (Lp (Int×(List Int)) ((List Int))):=match stt with
 | (a,out) =>
  (bif (ltB a 8) then
   ((m_slices_ContainsFunc_api_Point_api_Point_hood_Syms_1 l l a).bind fun y1 =>
   (bif (ba y1) then
    (appL 8 out [a]).bind fun _l1 =>
    some (out++[a])
   else
    some out)).bind fun out1 =>
   some (.next ((bq .i64 a 1),out1))
  else
   some (.out out))
def m_hood_Syms (l:List Point):Option (List Int) :=
 (m_hood_Right l).bind fun y =>
 (bif (ba y) then
  some []
 else
  (aT (b_hood_Syms_1 l) b7 (0,[])).bind fun out =>
  some out)
def m_generations_Next (t:Ar) (state count:Int):Option (Int) :=
 ((m_lifelike_Right t).bind fun y =>
 (bif (ba y) then
  some true
 else
  (bif (ltB state 0) then
   some true
  else
   (bif (geB state t.States) then
    some true
   else
    (bif (ltB count 0) then
     some true
    else
     some (geB count (aO t.Hood))))))).bind fun a =>
 (bif a then
  some 0
 else
  (((bif (eqB state 0) then
   (m_slices_Contains_int_int t.Birth count).bind fun y =>
   some y
  else
   some false)).bind fun a1 =>
  (bif a1 then
   some a1
  else
   (bif (eqB state 1) then
    (m_slices_Contains_int_int t.Survive count).bind fun y =>
    some y
   else
    some false))).bind fun a1 =>
  (bif a1 then
   some 1
  else
   (bif (eqB state 0) then
    some 0
   else
    (irem (bq .i64 state 1) t.States).bind fun n =>
    some n)))
def b_L16_NotationCounts_1 (in_:List Int) (aE:List Point) (_aB:Int) (_aF _az:List Int) (_y3:Int×Int) (stt:Int×Int×Int):Option (Lp (Int×Int×Int) (Bool ⊕ (Int×Int))):=match stt with
 | (count,state,a3) =>
  (bif (ltB a3 (aO aE)) then
   (bif (geB a3 (aO in_)) then
    some (.out (.inl false))
   else
    (idx aE a3).bind fun x =>
    (bif (gP (eqB x.X 0) (gP (eqB x.Y 0) true)) then
     (idx in_ a3).bind fun x1 =>
     some (.next (count,x1,(bq .i64 a3 1)))
    else
     (idx in_ a3).bind fun x1 =>
     (bif (eqB x1 1) then
      some (.next ((bq .i64 count 1),state,(bq .i64 a3 1)))
     else
      some (.next (count,state,(bq .i64 a3 1))))))
  else
   some (.out (.inr (count,state))))
def m_L16_NotationCounts (s:List UInt8) (in_:List Int):Option (Bool) :=
 (m_notation_Kind s).bind fun y =>
 ((bif (gtB (bu s) 40) then
  some true
 else
  (bif (gtB (aO in_) 40) then
   some true
  else
   (bif (neB y 1) then
    some (neB y 2)
   else
    some false)))).bind fun a =>
 (bif a then
  (m_L16_awake).bind fun y1 =>
  some y1
 else
  (m_lifelike_Parse s).bind fun y1 =>
  ((bif (eqB y 2) then
   (m_generations_Parse s).bind fun y2 =>
   some (y2.2,y2.1.Hood,y2.1.States,y2.1.Birth,y2.1.Survive)
  else
   some (y1.2,y1.1.Hood,y1.1.States,y1.1.Birth,y1.1.Survive))).bind fun(e_,aE,aB,aF,az) =>
  (m_notation_Parse s).bind fun y2 =>
  ((bif (neB e_ 0) then
   some true
  else
   some (neB y2.2 0))).bind fun a1 =>
  (bif a1 then
   ((bif (eqB e_ y2.2) then
    (m_L16_awake).bind fun y3 =>
    some y3
   else
    some false)).bind fun a2 =>
   some a2
  else
   ((bif (eqB (aO aE) 0) then
    some true
   else
    (m_notation_Syms y2.1).bind fun y3 =>
    (m_hood_Syms aE).bind fun y4 =>
    (m_L12_Ints y3 y4).bind fun y5 =>
    some (ba y5))).bind fun a2 =>
   (bif a2 then
    some false
   else
    (m_tree_Eval y2.1 in_).bind fun y3 =>
    (bif (neB y3.2 0) then
     ((bif (eqB y3.2 2) then
      (m_L16_awake).bind fun y4 =>
      some y4
     else
      (bif (eqB y3.2 10) then
       (m_L16_awake).bind fun y4 =>
       some y4
      else
       some false))).bind fun a3 =>
     some a3
    else
     (aT (b_L16_NotationCounts_1 in_ aE aB aF az y3) b7 (0,0,0)).bind fun o=>match o with
      | .inl r =>
       some r
      | .inr (count,state) =>
       ((m_generations_Next (⟨aE,aB,aF,az⟩:Ar) state count).bind fun y4 =>
       (bif (eqB y3.1 y4) then
        (m_L16_awake).bind fun y5 =>
        some y5
       else
        some false)).bind fun a3 =>
       some a3))))
abbrev vI (n:Int):V:=.u (.one (.d (.int .i64 n)))
abbrev dI (n:Int):C:=.d (.int .i64 n)
abbrev vX (k:Nat):V:=.u (.one (.box k 0))
abbrev vO (k:Nat):V:=.u (.one (.own k))
abbrev dL (l:List Int):C:=.d (.sl 1 (List.map (rI .i64) l))
abbrev vT (b:Bool):V:=.u (.one (.d (.bool b)))
abbrev dR0 (l:List Node):C:=.d (.sl 2 (List.map Node.row l))
abbrev dR1 (l:List Point):C:=.d (.sl 2 (List.map Point.row l))
end Go.Proofs.YtlifofijgddjkabGreatDoor
