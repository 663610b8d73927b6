/- The types of the program, as lists and numbers. -/
import Derived.Test.YtopmhknobhmbgaaGreatDoorAmSt
import Derived.Test.YtopmhknobhmbgaaGreatDoorAmFz
import Derived.Test.YtopmhknobhmbgaaGreatDoorAmOr
import Derived.Test.YtopmhknobhmbgaaGreatDoorAmSi
import Derived.Test.YtopmhknobhmbgaaGreatDoorAmSu
import Derived.Test.YtopmhknobhmbgaaGreatDoorAmZr
namespace Go.Proofs.YtopmhknobhmbgaaGreatDoor
open Go.AM Go.Proofs
theorem pC (k:IntKind) (l:A0) (i:Nat) (x:Int):(List.map (rI k) l).set i [L.int k x]=List.map (rI k) (l.set i x):=by rw[List.map_set];rfl
theorem rsetB (l:Af) (i:Nat) (x:Bool):(List.map rB l).set i [L.bool x]=List.map rB (l.set i x):=by rw[List.map_set];rfl
structure Point where
 X:Int
 Y:Int
 deriving DecidableEq,Inhabited
def Point.row (x:Point):Ai:=[.int .i64 x.X,.int .i64 x.Y]
theorem Point.row_eq (x:Point):x.row=[.int .i64 x.X,.int .i64 x.Y]:=rfl
def Point.key (x:Point):Key:=.ints [x.X,x.Y]
def Point.ints (x:Point):A0:=[x.X,x.Y]
instance:KeyF Point.key:=⟨λa b h=>by unfold Point.key at h;cases a;cases b;injection h with h;simp only[List.cons.injEq,and_true] at h;simp only[Point.mk.injEq];exact h⟩
structure Node where
 Level:Int
 Next:A0
 deriving DecidableEq,Inhabited
def Node.row (x:Node):Ai:=[.int .i64 x.Level,.sl 1 (List.map (rI .i64) x.Next)]
theorem Node.row_eq (x:Node):x.row=[.int .i64 x.Level,.sl 1 (List.map (rI .i64) x.Next)]:=rfl
structure Tree where
 States:Int
 Hood:List Point
 Nodes:List Node
 deriving DecidableEq,Inhabited
def Tree.row (x:Tree):Ai:=[.int .i64 x.States,.sl 2 (List.map Point.row x.Hood),.sl 2 (List.map Node.row x.Nodes)]
theorem Tree.row_eq (x:Tree):x.row=[.int .i64 x.States,.sl 2 (List.map Point.row x.Hood),.sl 2 (List.map Node.row x.Nodes)]:=rfl
structure Grid where
 W:Int
 H:Int
 Edge:Int
 Cells:A0
 deriving DecidableEq,Inhabited
def Grid.row (x:Grid):Ai:=[.int .i64 x.W,.int .i64 x.H,.int .i64 x.Edge,.sl 1 (List.map (rI .i64) x.Cells)]
theorem Grid.row_eq (x:Grid):x.row=[.int .i64 x.W,.int .i64 x.H,.int .i64 x.Edge,.sl 1 (List.map (rI .i64) x.Cells)]:=rfl
structure Bn where
 W:Int
 H:Int
 Gens:Int
 DX:Int
 DY:Int
 Syms:A0
 deriving DecidableEq,Inhabited
def Bn.row (x:Bn):Ai:=[.int .i64 x.W,.int .i64 x.H,.int .i64 x.Gens,.int .i64 x.DX,.int .i64 x.DY,.sl 1 (List.map (rI .i64) x.Syms)]
theorem Bn.row_eq (x:Bn):x.row=[.int .i64 x.W,.int .i64 x.H,.int .i64 x.Gens,.int .i64 x.DX,.int .i64 x.DY,.sl 1 (List.map (rI .i64) x.Syms)]:=rfl
structure Bo where
 Vars:Int
 Clauses:A1
 deriving DecidableEq,Inhabited
def Bo.row (x:Bo):Ai:=[.int .i64 x.Vars,.sl 1 (List.map (rS 1 (rI .i64)) x.Clauses)]
theorem Bo.row_eq (x:Bo):x.row=[.int .i64 x.Vars,.sl 1 (List.map (rS 1 (rI .i64)) x.Clauses)]:=rfl
structure Box where
 X:Int
 Y:Int
 W:Int
 H:Int
 deriving DecidableEq,Inhabited
def Box.row (x:Box):Ai:=[.int .i64 x.X,.int .i64 x.Y,.int .i64 x.W,.int .i64 x.H]
theorem Box.row_eq (x:Box):x.row=[.int .i64 x.X,.int .i64 x.Y,.int .i64 x.W,.int .i64 x.H]:=rfl
def Box.key (x:Box):Key:=.ints [x.X,x.Y,x.W,x.H]
def Box.ints (x:Box):A0:=[x.X,x.Y,x.W,x.H]
instance:KeyF Box.key:=⟨λa b h=>by unfold Box.key at h;cases a;cases b;injection h with h;simp only[List.cons.injEq,and_true] at h;simp only[Box.mk.injEq];exact h⟩
structure Bp where
 constant:Int
 vars:A0
 deriving DecidableEq,Inhabited
def Bp.row (x:Bp):Ai:=[.int .i64 x.constant,pnil 1 (List.map (rI .i64) x.vars)]
theorem Bp.row_eq (x:Bp):x.row=[.int .i64 x.constant,pnil 1 (List.map (rI .i64) x.vars)]:=rfl
structure Bq where
 box:Box
 values:List Bp
 deriving DecidableEq,Inhabited
def Bq.row (x:Bq):Ai:=[.int .i64 x.box.X,.int .i64 x.box.Y,.int .i64 x.box.W,.int .i64 x.box.H,.sl 2 (List.map Bp.row x.values)]
theorem Bq.row_eq (x:Bq):x.row=[.int .i64 x.box.X,.int .i64 x.box.Y,.int .i64 x.box.W,.int .i64 x.box.H,.sl 2 (List.map Bp.row x.values)]:=rfl
structure Br where
 variable_:Int
 trail:Int
 turned:Bool
 deriving DecidableEq,Inhabited
abbrev Aw:=List Node
abbrev Ax:=List (A4×Tree)
abbrev Ay:=List Point
abbrev Az:=List Br
abbrev AA:=List Bp
abbrev AB:=Int×Int×Int×Int×AA×Bool×Int×Ax×A1
abbrev AC:=Int->A0->Aw->Aw->Option (Int×A0×Aw)
abbrev AD:=List Grid
def Br.row (x:Br):Ai:=[.int .i64 x.variable_,.int .i64 x.trail,.bool x.turned]
theorem Br.row_eq (x:Br):x.row=[.int .i64 x.variable_,.int .i64 x.trail,.bool x.turned]:=rfl
attribute [simp] Point.row_eq Node.row_eq Tree.row_eq Grid.row_eq Bn.row_eq Bo.row_eq Box.row_eq Bp.row_eq Bq.row_eq Br.row_eq
end Go.Proofs.YtopmhknobhmbgaaGreatDoor
namespace Go.Proofs.YtopmhknobhmbgaaGreatDoor
open Go.AM Go.Proofs
def cmpI (a b:Int):Int:=if a<b then -1 else if a>b then 1 else 0
def jq:A0->A0->Int|[],[]=>0|[],_::_=>-1|_::_,[]=>1|x::a,y::b=>if cmpI x y≠0 then cmpI x y else jq a b
def fK (a b:Grid):Int:=jq a.Cells b.Cells
def fM (a:Grid):Bool:=decide (a.Cells.length<1000000)
def m9 (t:Tree) (_x:Bn) (stt:Int):Option (Lp (Int) (Bool ⊕ Unit)):=match stt with|a1=>(bif (ltB a1 (bi t.Nodes))then (idx t.Nodes a1).bind λx1=>(bif (gtB (bi x1.Next) 20)then some (.out (.inl false)) else some (.next (bC .i64 a1 1))) else some (.out (.inr ())))
def mG (t:Tree) (x:Bn):Al :=((bif (gtB (bi t.Nodes) 150)then some true else (bif (gtB (bi t.Hood) 9)then some true else (bif (gtB (bi x.Syms) 20)then some true else (bif (gtB x.Gens 3)then some (leB x.Gens 6) else some false))))).bind λa=>(bif a then some false else (bn (m9 t x) bI 0).bind λo=>match o with
   |.inl r=>some r|.inr _u=>((bif (ltB x.W 1)then some true else (bif (ltB x.H 1)then some true else (bif (gtB x.W 16)then some true else (bif (gtB x.H 16)then some true else (bif (leB (cg .i64 x.W x.H) 9)then some true else some (gtB (cg .i64 x.W x.H) 16))))))).bind λa1=>some a1)
def nf (a b:Point):Al :=((bif (ltB a.Y b.Y)then some true else (bif (eqB a.Y b.Y)then some (ltB a.X b.X) else some false))).bind λa1=>some a1
def mc (l:Ay) (stt:Int):Option (Lp (Int) (Bool ⊕ Unit)):=match stt with|i=>(bif (ltB i (bi l))then (idx l i).bind λx=>((bif (ltB x.X (-2))then some true else (bif (gtB x.X 2)then some true else (bif (ltB x.Y (-2))then some true else (bif (gtB x.Y 2)then some true else (bif (gtB i 0)then (idx l (bX .i64 i 1)).bind λx1=>(nf x1 x).bind λy=>some (eR y) else some false)))))).bind λa1=>(bif a1 then some (.out (.inl false)) else some (.next (bC .i64 i 1))) else some (.out (.inr ())))
def mH (l:Ay):Al :=((bif (ltB (bi l) 1)then some true else some (gtB (bi l) 25))).bind λa=>(bif a then some false else (bn (mc l) bI 0).bind λo=>match o with
   |.inl r=>some r|.inr _u=>some true)
def lh (t:Tree) (i:Int) (x:Node) (stt:Int):Option (Lp (Int) (Bool ⊕ Unit)):=match stt with|s=>(bif (ltB s t.States)then (idx x.Next s).bind λx1=>(bif (ltB x1 0)then some (.out (.inl false)) else ((bif (eqB x.Level 1)then some (geB x1 t.States) else some false)).bind λa2=>(bif a2 then some (.out (.inl false)) else ((bif (gtB x.Level 1)then (bif (geB x1 i)then some true else (idx t.Nodes x1).bind λx2=>some (neB x2.Level (bX .i64 x.Level 1))) else some false)).bind λa3=>(bif a3 then some (.out (.inl false)) else some (.next (bC .i64 s 1))))) else some (.out (.inr ())))
def lg (t:Tree) (stt:Int):Option (Lp (Int) (Bool ⊕ Unit)):=match stt with
 |i=>(bif (ltB i (bi t.Nodes))then (idx t.Nodes i).bind λx=>((bif (ltB x.Level 1)then some true else (bif (gtB x.Level (bi t.Hood))then some true else some (neB (bi x.Next) t.States)))).bind λa1=>(bif a1 then some (.out (.inl false)) else (bn (lh t i x) bI 0).bind λo=>match o with
     |.inl r=>some (.out (.inl r))|.inr _u=>some (.next (bC .i64 i 1))) else some (.out (.inr ())))
def nR (t:Tree):Al :=((bif (ltB t.States 2)then some true else (bif (gtB t.States 8)then some true else (mH t.Hood).bind λy=>(bif (eR y)then some true else (bif (ltB (bi t.Nodes) 1)then some true else some (gtB (bi t.Nodes) 4096)))))).bind λa=>(bif a then some false else (bn (lg t) bI 0).bind λo=>match o with
   |.inl r=>some r|.inr _u=>(idx t.Nodes (bX .i64 (bi t.Nodes) 1)).bind λx=>some (eqB x.Level (bi t.Hood)))
def sx (w hv b7:Int):Al :=((bif (geB w 1)then (bif (leB w 256)then (bif (geB hv 1)then (bif (leB hv 256)then (bif (leB (cg .i64 w hv) 4096)then (bif (geB b7 0)then some (leB b7 2) else some false) else some false) else some false) else some false) else some false) else some false)).bind λa=>some a
def m7 (gv:Grid) (stt:Int):Option (Lp (Int) (Bool ⊕ Unit)):=match stt with|i=>(bif (ltB i (bi gv.Cells))then ((idx gv.Cells i).bind λx=>(bif (ltB x 0)then some true else some (geB x 8))).bind λa1=>(bif a1 then some (.out (.inl false)) else some (.next (bC .i64 i 1))) else some (.out (.inr ())))
def nO (gv:Grid):Al :=((sx gv.W gv.H gv.Edge).bind λy=>(bif (eR y)then some true else some (neB (bi gv.Cells) (cg .i64 gv.W gv.H)))).bind λa=>(bif a then some false else (bn (m7 gv) bI 0).bind λo=>match o with
   |.inl r=>some r|.inr _u=>some true)
def ri (n:Int):At :=some (iW n (cM .i64 n))
def lF (l:Ay) (stt:Int×Int):Option (Lp (Int×Int) (Int)):=match stt with|(n,i)=>(bif (ltB i (bi l))then (idx l i).bind λx=>(ri x.X).bind λy1=>(ri x.Y).bind λy2=>some (.next ((iW (iW n y1) y2),(bC .i64 i 1))) else some (.out n))
def ik (l:Ay):At :=(mH l).bind λy=>(bif (eR y)then some 0 else (bn (lF l) bI (0,0)).bind λn=>some n)
def mF (t:Tree) (gv:Grid) (y:Int) (stt:Int×Int):Option (Lp (Int×Int) (Bool ⊕ Unit)):=match stt with|(n,i)=>((bif (ltB i (cg .i64 (bC .i64 gv.W (cg .i64 2 y)) (bC .i64 gv.H (cg .i64 2 y))))then some (leB (cg .i64 (bC .i64 gv.W (cg .i64 2 y)) (bC .i64 gv.H (cg .i64 2 y))) 16) else some false)).bind λa2=>(bif a2 then (bif (gtB (cg .i64 n t.States) 65536)then some (.out (.inl false)) else some (.next ((cg .i64 n t.States),(bC .i64 i 1)))) else some (.out (.inr ())))
def oM (t:Tree) (gv:Grid):Al :=((mG t (⟨0,0,0,0,0,[]⟩:Bn)).bind λy=>(bif (eR y)then some true else some (gtB (bi gv.Cells) 5000))).bind λa=>(bif a then some false else ((nR t).bind λy=>(bif (eR y)then some true else (nO gv).bind λy1=>some (eR y1))).bind λa1=>(bif a1 then some true else (ik t.Hood).bind λy=>(bn (mF t gv y) bI (1,0)).bind λo=>match o with
    |.inl r=>some r|.inr _u=>some true))
def m_L48_shift:Option (Tree) :=some (⟨2,[(⟨(-1),0⟩:Point)],[(⟨1,[0,1]⟩:Node)]⟩:Tree)
def l8 (x:Int):Al :=some (neB x x)
def fP (x y:Int):At :=(l8 x).bind λy1=>(l8 y).bind λy2=>(bif y1 then (bif y2 then some 0 else some (-1)) else (bif y2 then some 1 else (bif (ltB x y)then some (-1) else (bif (gtB x y)then some 1 else some 0))))
def jT (vals:A0) (stt:Int):Option (Lp (Int) (Int ⊕ Unit)):=match stt with|a=>(bif (ltB a (bi vals))then (idx vals a).bind λx=>(bif (neB x 0)then some (.out (.inl x)) else some (.next (bC .i64 a 1))) else some (.out (.inr ())))
def mW (vals:A0):At :=(bn (jT vals) bI 0).bind λo=>match o with|.inl r=>some r|.inr _u=>some 0
def l7 (a b:Point):At :=(fP a.Y b.Y).bind λy=>(fP a.X b.X).bind λy1=>(mW [y,y1]).bind λy2=>some y2
def lK (l:Ay) (stt:Int):Option (Lp (Int) (Bool ⊕ Unit)):=match stt with|a1=>(bif (ltB a1 (bi l))then (idx l a1).bind λx=>((bif (ltB x.X (-2))then some true else (bif (gtB x.X 2)then some true else (bif (ltB x.Y (-2))then some true else (bif (gtB x.Y 2)then some true else (bif (gtB a1 0)then (idx l (bX .i64 a1 1)).bind λx1=>(l7 x1 x).bind λy=>some (geB y 0) else some false)))))).bind λa2=>(bif a2 then some (.out (.inl false)) else some (.next (bC .i64 a1 1))) else some (.out (.inr ())))
def lS (l:Ay):Al :=((bif (ltB (bi l) 1)then some true else some (gtB (bi l) 25))).bind λa=>(bif a then some false else (bn (lK l) bI 0).bind λo=>match o with
   |.inl r=>some r|.inr _u=>some true)
def k6 (t:Tree) (a1:Int) (x:Node) (stt:Int):Option (Lp (Int) (Bool ⊕ Unit)):=match stt with|a3=>(bif (ltB a3 (bi x.Next))then (idx x.Next a3).bind λx1=>((bif (ltB x1 0)then some true else (bif (eqB x.Level 1)then (bif (geB x1 t.States)then some true else (bif (gtB x.Level 1)then (bif (geB x1 a1)then some true else (idx t.Nodes x1).bind λx2=>some (neB x2.Level (bX .i64 x.Level 1))) else some false)) else (bif (gtB x.Level 1)then (bif (geB x1 a1)then some true else (idx t.Nodes x1).bind λx2=>some (neB x2.Level (bX .i64 x.Level 1))) else some false)))).bind λa4=>(bif a4 then some (.out (.inl false)) else some (.next (bC .i64 a3 1))) else some (.out (.inr ())))
def jU (t:Tree) (stt:Int):Option (Lp (Int) (Bool ⊕ Unit)):=match stt with
 |a1=>(bif (ltB a1 (bi t.Nodes))then (idx t.Nodes a1).bind λx=>((bif (ltB x.Level 1)then some true else (bif (gtB x.Level (bi t.Hood))then some true else some (neB (bi x.Next) t.States)))).bind λa2=>(bif a2 then some (.out (.inl false)) else (bn (k6 t a1 x) bI 0).bind λo=>match o with
     |.inl r=>some (.out (.inl r))|.inr _u=>some (.next (bC .i64 a1 1))) else some (.out (.inr ())))
def gZ (t:Tree):Al :=((bif (ltB t.States 2)then some true else (bif (gtB t.States 8)then some true else (lS t.Hood).bind λy=>(bif (eR y)then some true else (bif (ltB (bi t.Nodes) 1)then some true else (bif (gtB (bi t.Nodes) 4096)then some true else (idx t.Nodes (bX .i64 (bi t.Nodes) 1)).bind λx=>some (neB x.Level (bi t.Hood)))))))).bind λa=>(bif a then some false else (bn (jU t) bI 0).bind λo=>match o with
   |.inl r=>some r|.inr _u=>some true)
def ot (w hv b7:Int):Al :=((bif (geB w 1)then (bif (leB w 256)then (bif (geB hv 1)then (bif (leB hv 256)then (bif (leB (cg .i64 w hv) 4096)then (bif (geB b7 0)then some (leB b7 2) else some false) else some false) else some false) else some false) else some false) else some false)).bind λa=>some a
def mZ (s:Int):Al :=((bif (ltB s 0)then some true else some (geB s 8))).bind λa=>some a
def bY (s:A0) (stt:Int):Option (Lp (Int) (Int ⊕ Unit)):=match stt with|a=>(bif (ltB a (bi s))then (idx s a).bind λx=>(mZ x).bind λy=>(bif y then some (.out (.inl a)) else some (.next (bC .i64 a 1))) else some (.out (.inr ())))
def cX (s:A0):At :=(bn (bY s) bI 0).bind λo=>match o with|.inl r=>some r|.inr _u=>some (-1)
def cA (s:A0):Al :=(cX s).bind λy=>some (geB y 0)
def lR (gv:Grid):Al :=((ot gv.W gv.H gv.Edge).bind λy=>(bif y then (bif (eqB (bi gv.Cells) (cg .i64 gv.W gv.H))then (cA gv.Cells).bind λy1=>some (eR y1) else some false) else some false)).bind λa=>some a
def iN (s:Int) (a:Tree):Al :=some (geB s a.States)
def bA (s:A0) (cv:Tree) (stt:Int):Option (Lp (Int) (Int ⊕ Unit)):=match stt with|a=>(bif (ltB a (bi s))then (idx s a).bind λx=>(iN x cv).bind λy=>(bif y then some (.out (.inl a)) else some (.next (bC .i64 a 1))) else some (.out (.inr ())))
def cw (s:A0) (cv:Tree):At :=(bn (bA s cv) bI 0).bind λo=>match o with|.inl r=>some r|.inr _u=>some (-1)
def bG (s:A0) (cv:Tree):Al :=(cw s cv).bind λy=>some (geB y 0)
def fj (l:Ay) (stt:Int×Int):Option (Lp (Int×Int) (Int)):=match stt with|(r_,a)=>(bif (ltB a (bi l))then (idx l a).bind λx=>some (.next ((iW (iW (iW (iW r_ x.X) (cM .i64 x.X)) x.Y) (cM .i64 x.Y)),(bC .i64 a 1))) else some (.out r_))
def cR (l:Ay):At :=((lS l).bind λy=>(bif y then (bn (fj l) bI (0,0)).bind λr_=>some r_ else some 0)).bind λr_=>some r_
def bU (l:A0):Option A0:=iK 8 [] l
def lu (_x:Int) (next:A0):Option A0 :=some next
def dd (l:A0) (n base:Int):Option A0:=appUM l n base
def eP (i base:Int):Option A0 :=((bif (ltB i 0)then (iK 1 [] [45]).bind λ_l=>some ((cM .u64 (iconv .u64 i)),([]++[45])) else some ((iconv .u64 i),[]))).bind λ(u,dst)=>(dd dst u base).bind λy=>some y
def f6 (i base:Int):Option A0 :=(eP i base).bind λy=>some y
def eA (dst:A0) (i base:Int):Option A0 :=((bif (ltB i 0)then (iK 1 dst [45]).bind λ_l=>some ((cM .u64 (iconv .u64 i)),(dst++[45])) else some ((iconv .u64 i),dst))).bind λ(u,dst1)=>(dd dst1 u base).bind λy=>some y
def dW (dst:A0) (i base:Int):Option A0 :=(eA dst i base).bind λy=>some y
def gb (_ay:Aw) (_au:Ag) (_level:Int) (next:A0) (stt:Int×A0):Option (Lp (Int×A0) (A0)):=match stt with|(a,keyv)=>(bif (ltB a (bi next))then (idx next a).bind λx=>(iK 1 keyv [32]).bind λ_l=>(dW (keyv++[32]) x 10).bind λy1=>some (.next ((bC .i64 a 1),y1)) else some (.out keyv))
def ea (ay:Aw) (au:Ag) (level:Int) (next:A0):Option (Int×Ag×Aw) :=(f6 level 10).bind λy=>(bn (gb ay au level next) bI (0,y)).bind λkeyv=>(kckS (ofBytes keyv)).bind λ_u=>(bif (d5 au (ofBytes keyv))then some ((el au (ofBytes keyv) 0),au,ay) else (iK 32 ay [(⟨level,next⟩:Node)]).bind λ_l=>some ((bX .i64 ((bi ay)+1) 1),(ga au (ofBytes keyv) (bX .i64 ((bi ay)+1) 1)),(ay++[(⟨level,next⟩:Node)])))
def cK (l:Ay):Option Ay:=iK 16 [] l
def ci (rcv:AC) (_k:Int) (a1:Aw) (x1:Node) (y:A0) (stt:Int×A0×Aw×A0):Option (Lp (Int×A0×Aw×A0) ((A0×Aw×A0))):=match stt with|(a2,l,l2,l1)=>(bif (ltB a2 (bi y))then ((idx l a2).bind λx2=>(bif (gtB x1.Level 1)then (rcv x2 l1 a1 l2).bind λy1=>some ((l.set a2.toNat y1.1),y1.2.1,y1.2.2) else some (l,l1,l2))).bind λ(l3,l4,l5)=>some (.next ((bC .i64 a2 1),l3,l5,l4)) else some (.out (l,l2,l1)))
def cr (rcv:AC) (k:Int) (a:A0) (a1 cv:Aw):Option (Int×A0×Aw) :=(idx a k).bind λx=>(bif (gtB x 0)then some ((bX .i64 x 1),a,cv) else (idx a1 k).bind λx1=>(bU x1.Next).bind λy=>(bn (ci rcv k a1 x1 y) bI (0,y,cv,a)).bind λ(l,l1,l2)=>(iK 32 l1 [(⟨x1.Level,l⟩:Node)]).bind λ_l3=>(idx l2 k).bind λ_x2=>some ((bX .i64 ((bi l1)+1) 1),(l2.set k.toNat ((bi l1)+1)),(l1++[(⟨x1.Level,l⟩:Node)])))
def iI (k:Int) (a:A0) (a1 cv:Aw):Option (Int×A0×Aw):=recN cr (λ_ _ _ _=>none) recF k a a1 cv
def iq (nodes:Aw) (root:Int):Option Aw :=(mkL 8 (bi nodes) (bi nodes) 0).bind λ_l=>(iI root (List.replicate (bi nodes).toNat 0) nodes []).bind λy=>some y.2.2
def bF (_t:Tree) (_a:Int) (_mp:Ag) (_l:Aw) (to_:A0) (x:Node) (y:A0) (stt:Int×A0):Option (Lp (Int×A0) (A0)):=match stt with|(a1,next)=>(bif (ltB a1 (bi y))then ((idx next a1).bind λx1=>(bif (gtB x.Level 1)then (idx to_ x1).bind λx2=>some (next.set a1.toNat x2) else some next)).bind λaL=>some (.next ((bC .i64 a1 1),aL)) else some (.out next))
def cm (t:Tree) (stt:Int×Ag×Aw×A0):Option (Lp (Int×Ag×Aw×A0) ((Ag×Aw×A0))):=match stt with|(a,mp,l,to_)=>(bif (ltB a (bi t.Nodes))then (idx t.Nodes a).bind λx=>(bU x.Next).bind λy=>(bn (bF t a mp l to_ x y) bI (0,y)).bind λnext=>(lu x.Level next).bind λy1=>(ea l mp x.Level y1).bind λy2=>(iK 8 to_ [y2.1]).bind λ_l1=>some (.next ((bC .i64 a 1),y2.2.1,y2.2.2,(to_++[y2.1]))) else some (.out (mp,l,to_)))
def d7 (t:Tree):Option (Tree) :=(bn (cm t) bI (0,[],[],[])).bind λ(_mp,l,to_)=>(cK t.Hood).bind λy=>(idx to_ (bX .i64 (bi to_) 1)).bind λx=>(iq l x).bind λy1=>some (⟨t.States,y,y1⟩:Tree)
def jh (t:Tree):Option (Tree) :=(gZ t).bind λy=>(bif (eR y)then some (⟨0,[],[]⟩:Tree) else (d7 t).bind λy1=>some y1)
def kr (states:Int):At :=(bif (eqB states 2)then some 1 else ((bif (eqB states 3)then some (eqB states 3) else some (eqB states 4))).bind λa=>(bif a then some 2 else ((bif (gtB states 4)then some (leB states 8) else some false)).bind λa1=>(bif a1 then some 3 else some 0)))
def lD (t:Tree):Option (Int×Ay×Aw×Int) :=(jh t).bind λy=>(kr t.States).bind λy1=>some (y.States,y.Hood,y.Nodes,y1)
def dp (_ag:A1) (_aa:Int) (_ae:Ay) (_ab:Aw) (aq:Int) (_ak:Ax) (stt:Int×A0×Int):Option (Lp (Int×A0×Int) ((A0×Int))):=match stt with|(a,l,aj)=>(bif (ltB a aq)then (iK 8 l [(bC .i64 aj 1)]).bind λ_l1=>some (.next ((bC .i64 a 1),(l++[(bC .i64 aj 1)]),(bC .i64 aj 1))) else some (.out (l,aj)))
def dS (ah:Int) (ag:A1) (aa:Int) (ae:Ay) (ab:Aw) (aq:Int) (ak:Ax):Option (A0×Int) :=(bn (dp ag aa ae ab aq ak) bI (0,[],ah)).bind λ(l,aj)=>some (l,aj)
def gm (cv:Int) (y:A0) (stt:Int×A0):Option (Lp (Int×A0) (A0)):=match stt with|(a,l)=>(bif (ltB a (bi y))then ((ishr .i64 cv a).bind λn=>(bif (eqB (iand .i64 n 1) 1)then (idx l a).bind λx=>some (l.set a.toNat (cM .i64 x)) else some l)).bind λl1=>some (.next ((bC .i64 a 1),l1)) else some (.out l))
def iA (vars:A0) (cv:Int):Option A0 :=(bU vars).bind λy=>(bn (gm cv y) bI (0,y)).bind λl=>some l
def dz (_ah:Int) (ag:A1) (_aa:Int) (_ae:Ay) (_ab:Aw) (_aq:Int) (_ak:Ax) (l:A0):Option (Unit) :=(iK 24 ag [l]).bind λ_l1=>some ()
def dy (ag:A1) (aa:Int) (ae:Ay) (ab:Aw) (aq:Int) (ak:Ax) (box:Box) (stt:Int×AA×Int):Option (Lp (Int×AA×Int) ((AA×Int))):=match stt with|(a,l,aj)=>(bif (ltB a (cg .i64 box.W box.H))then (dS aj ag aa ae ab aq ak).bind λy=>(neE y.1).bind λ_u=>(iK 32 l [(⟨0,y.1⟩:Bp)]).bind λ_l1=>some (.next ((bC .i64 a 1),(l++[(⟨0,y.1⟩:Bp)]),y.2)) else some (.out (l,aj)))
def cY (aa:Int) (ae:Ay) (ab:Aw) (aq:Int) (ak:Ax) (_box:Box) (_l:AA) (aj _a:Int) (x:Bp) (stt:Int×A1):Option (Lp (Int×A1) (A1)):=match stt with|(cv,l2)=>(ishl .i64 1 aq).bind λn=>(bif (ltB cv n)then (neE x.vars).bind λ_u=>(iA x.vars cv).bind λy=>(dz aj l2 aa ae ab aq ak y).bind λ_y1=>some (.next ((bC .i64 cv 1),(l2++[y]))) else some (.out l2))
def dA (aa:Int) (ae:Ay) (ab:Aw) (aq:Int) (ak:Ax) (box:Box) (l:AA) (aj:Int) (stt:Int×A1):Option (Lp (Int×A1) (A1)):=match stt with|(a,l1)=>(bif (ltB a (bi l))then (idx l a).bind λx=>(bn (cY aa ae ab aq ak box l aj a x) bI (aa,l1)).bind λl2=>some (.next ((bC .i64 a 1),l2)) else some (.out l1))
def fy (ah:Int) (ag:A1) (aa:Int) (ae:Ay) (ab:Aw) (aq:Int) (ak:Ax) (box:Box):Option (AA×A1×Int) :=(bn (dy ag aa ae ab aq ak box) bI (0,[],ah)).bind λ(l,aj)=>(bn (dA aa ae ab aq ak box l aj) bI (0,ag)).bind λl1=>some (l,l1,aj)
def ji (f:Bq) (x y:Int):Option (Bp) :=((bif (ltB (bX .i64 x f.box.X) 0)then some true else (bif (geB (bX .i64 x f.box.X) f.box.W)then some true else (bif (ltB (bX .i64 y f.box.Y) 0)then some true else some (geB (bX .i64 y f.box.Y) f.box.H))))).bind λa=>(bif a then some (⟨0,[]⟩:Bp) else (idx f.values (bC .i64 (cg .i64 (bX .i64 y f.box.Y) f.box.W) (bX .i64 x f.box.X))).bind λx1=>some x1)
def jt (next:A0) (_aN:Int) (_aV:Ay) (_aS:Aw) (_a a1:Int) (stt:Int×A0):Option (Lp (Int×A0) (A0)):=match stt with|(a2,aL)=>(bif (ltB a2 (bi next))then ((bif (neB a2 a1)then (idx aL a1).bind λx=>(idx aL a2).bind λ_x1=>some (aL.set a2.toNat x) else some aL)).bind λnext2=>some (.next ((bC .i64 a2 1),next2)) else some (.out aL))
def ku (level:Int) (next:A0) (aN:Int) (aV:Ay) (aS:Aw) (a a1:Int):Option A0 :=((bif (eqB level (bX .i64 (bi aV) a))then (bn (jt next aN aV aS a a1) bI (0,next)).bind λaL=>some aL else some next)).bind λaL=>some aL
def gX (_ay:Aw) (_au:Ag) (_level:Int) (next:A0) (stt:Int×A0):Option (Lp (Int×A0) (A0)):=match stt with|(a,keyv)=>(bif (ltB a (bi next))then (idx next a).bind λx=>(iK 1 keyv [32]).bind λ_l=>(dW (keyv++[32]) x 10).bind λy1=>some (.next ((bC .i64 a 1),y1)) else some (.out keyv))
def iU (ay:Aw) (au:Ag) (level:Int) (next:A0):Option (Int×Ag×Aw) :=(f6 level 10).bind λy=>(bn (gX ay au level next) bI (0,y)).bind λkeyv=>(kckS (ofBytes keyv)).bind λ_u=>(bif (d5 au (ofBytes keyv))then some ((el au (ofBytes keyv) 0),au,ay) else (iK 32 ay [(⟨level,next⟩:Node)]).bind λ_l=>some ((bX .i64 ((bi ay)+1) 1),(ga au (ofBytes keyv) (bX .i64 ((bi ay)+1) 1)),(ay++[(⟨level,next⟩:Node)])))
def eL (_t:Tree) (_aB:Int) (_aO:Ay) (_aG:Aw) (_cv _cv1 _a:Int) (_mp:Ag) (_l:Aw) (to_:A0) (x:Node) (y:A0) (stt:Int×A0):Option (Lp (Int×A0) (A0)):=match stt with|(a1,next)=>(bif (ltB a1 (bi y))then ((idx next a1).bind λx1=>(bif (gtB x.Level 1)then (idx to_ x1).bind λx2=>some (next.set a1.toNat x2) else some next)).bind λaL=>some (.next ((bC .i64 a1 1),aL)) else some (.out next))
def eQ (t:Tree) (aB:Int) (aO:Ay) (aG:Aw) (cv cv1:Int) (stt:Int×Ag×Aw×A0):Option (Lp (Int×Ag×Aw×A0) ((Ag×Aw×A0))):=match stt with|(a,mp,l,to_)=>(bif (ltB a (bi t.Nodes))then (idx t.Nodes a).bind λx=>(bU x.Next).bind λy=>(bn (eL t aB aO aG cv cv1 a mp l to_ x y) bI (0,y)).bind λnext=>(ku x.Level next aB aO aG cv cv1).bind λy1=>(iU l mp x.Level y1).bind λy2=>(iK 8 to_ [y2.1]).bind λ_l1=>some (.next ((bC .i64 a 1),y2.2.1,y2.2.2,(to_++[y2.1]))) else some (.out (mp,l,to_)))
def ff (t:Tree) (aB:Int) (aO:Ay) (aG:Aw) (cv cv1:Int):Option (Ay×Aw) :=(bn (eQ t aB aO aG cv cv1) bI (0,[],[],[])).bind λ(_mp,l,to_)=>(cK t.Hood).bind λy=>(idx to_ (bX .i64 (bi to_) 1)).bind λx=>(iq l x).bind λy1=>some (y,y1)
def sD (t:Tree) (k s:Int):Option (Tree×Int) :=(gZ t).bind λy=>(bif (eR y)then some ((⟨0,[],[]⟩:Tree),11) else ((bif (ltB k 0)then some true else some (geB k (bi t.Hood)))).bind λa=>(bif a then some ((⟨0,[],[]⟩:Tree),2) else ((bif (ltB s 0)then some true else some (geB s t.States))).bind λa1=>(bif a1 then some ((⟨0,[],[]⟩:Tree),10) else (ff t t.States t.Hood t.Nodes k s).bind λy1=>some ((⟨t.States,y1.1,y1.2⟩:Tree),0))))
def gM (_ah:Int) (_ag:A1) (_aa:Int) (_ae:Ay) (_ab:Aw) (_aq:Int) (_ak:Ax) (in_:AA) (stt:Int×A0):Option (Lp (Int×A0) (A0)):=match stt with|(a,keyv)=>(bif (ltB a (bi in_))then (idx in_ a).bind λx=>((bif (eR (isE x.vars))then some 255 else some (iconv .u8 x.constant))).bind λk=>(iK 1 keyv [k]).bind λ_l=>some (.next ((bC .i64 a 1),(keyv++[k]))) else some (.out keyv))
def gO (_ah:Int) (_ag:A1) (_aa:Int) (_ae:Ay) (_ab:Aw) (_aq:Int) (_ak:Ax) (in_:AA) (_keyv:A0) (_u:Unit) (stt:Int×Int×Ay×Aw):Option (Lp (Int×Int×Ay×Aw) ((Int×Ay×Aw))):=match stt with|(a,aA,aM,aC)=>(bif (ltB a (bi in_))then ((idx in_ a).bind λx=>(bif (isE x.vars)then (sD (⟨aA,aM,aC⟩:Tree) a x.constant).bind λy=>some (y.1.States,y.1.Hood,y.1.Nodes) else some (aA,aM,aC))).bind λ(bf,tHood1,tNodes1)=>some (.next ((bC .i64 a 1),bf,tHood1,tNodes1)) else some (.out (aA,aM,aC)))
def fQ (ah:Int) (ag:A1) (aa:Int) (ae:Ay) (ab:Aw) (aq:Int) (ak:Ax) (in_:AA):Option (Int×Ay×Aw×Ax) :=(bn (gM ah ag aa ae ab aq ak in_) bI (0,[])).bind λkeyv=>(kckS (ofBytes keyv)).bind λu=>(bif (d5 ak (ofBytes keyv))then (fV ak (ofBytes keyv)).bind λv=>some (v.States,v.Hood,v.Nodes,ak) else (bn (gO ah ag aa ae ab aq ak in_ keyv u) bI (0,aa,ae,ab)).bind λ(aA,aM,aC)=>some (aA,aM,aC,(ga ak (ofBytes keyv) (⟨aA,aM,aC⟩:Tree))))
def gF (n:Int) (a:Node):Al :=(idx a.Next 0).bind λx=>some (neB n x)
def bJ (s:A0) (cv:Node) (stt:Int):Option (Lp (Int) (Int ⊕ Unit)):=match stt with|a=>(bif (ltB a (bi s))then (idx s a).bind λx=>(gF x cv).bind λy=>(bif y then some (.out (.inl a)) else some (.next (bC .i64 a 1))) else some (.out (.inr ())))
def cF (s:A0) (cv:Node):At :=(bn (bJ s cv) bI 0).bind λo=>match o with|.inl r=>some r|.inr _u=>some (-1)
def bR (s:A0) (cv:Node):Al :=(cF s cv).bind λy=>some (geB y 0)
def cH (s bc:Int) (aNext:A0) (a:AA):Option (Int×A0) :=(bif (eqB bc 1)then (idx aNext s).bind λx=>some (x,[]) else (idx aNext s).bind λx=>(idx a x).bind λx1=>some (x1.constant,x1.vars))
def dY (_ah:Int) (ag:A1) (_aa:Int) (_ae:Ay) (_ab:Aw) (_aq:Int) (_ak:Ax) (l:A0):Option (Unit) :=(iK 24 ag [l]).bind λ_l1=>some ()
def cq (l:A0) (aQ:Int) (aK:A1) (aT:Int) (aX:Ay) (aU:Aw) (abits:Int) (ba:Ax) (a:A0):Option A1 :=(bU a).bind λy=>(iK 8 y l).bind λ_l1=>(dY aQ aK aT aX aU abits ba (y++l)).bind λ_y1=>some (aK++[(y++l)])
def dM (ah aa:Int) (ae:Ay) (ab:Aw) (aq:Int) (ak:Ax) (aH own:A0) (v:Bp) (stt:Int×A1):Option (Lp (Int×A1) (A1)):=match stt with|(a,l)=>(bif (ltB a (bi own))then ((idx own a).bind λx=>(bif (eR (isE v.vars))then (neE v.vars).bind λ_u=>(idx v.vars a).bind λx1=>(cq [(cM .i64 x),x1] ah l aa ae ab aq ak aH).bind λy=>(cq [x,(cM .i64 x1)] ah y aa ae ab aq ak aH).bind λy1=>some y1 else (ishr .i64 v.constant a).bind λn=>(bif (eqB (iand .i64 n 1) 1)then (cq [x] ah l aa ae ab aq ak aH).bind λy=>some y else (cq [(cM .i64 x)] ah l aa ae ab aq ak aH).bind λy=>some y))).bind λl1=>some (.next ((bC .i64 a 1),l1)) else some (.out l))
def ek (ah:Int) (ag:A1) (aa:Int) (ae:Ay) (ab:Aw) (aq:Int) (ak:Ax) (aH own:A0) (v:Bp):Option A1 :=(bn (dM ah aa ae ab aq ak aH own v) bI (0,ag)).bind λl=>some l
def db (aa:Int) (ae:Ay) (ab:Aw) (aq:Int) (ak:Ax) (_t:Tree) (_in_:AA) (a:Int) (l1:AA) (x:Node) (x1:Bp) (y1:A0×Int) (x2:Bp) (_u:Unit) (stt:Int×A1):Option (Lp (Int×A1) (A1)):=match stt with|(a1,l3)=>(bif (ltB a1 (bi x.Next))then (neE x1.vars).bind λ_u1=>(iA x1.vars a1).bind λy2=>(cH a1 x.Level x.Next (l1.set a.toNat (⟨x2.constant,y1.1⟩:Bp))).bind λy3=>(ek y1.2 l3 aa ae ab aq ak y2 y1.1 (⟨y3.1,y3.2⟩:Bp)).bind λy4=>some (.next ((bC .i64 a1 1),y4)) else some (.out l3))
def dc (aa:Int) (ae:Ay) (ab:Aw) (aq:Int) (ak:Ax) (t:Tree) (in_:AA) (stt:Int×AA×A1×Int):Option (Lp (Int×AA×A1×Int) ((AA×A1×Int))):=match stt with|(a,l1,l2,aj)=>(bif (ltB a (bi t.Nodes))then (idx t.Nodes a).bind λx=>(bR x.Next x).bind λy=>(bif (eR y)then (cH 0 x.Level x.Next l1).bind λy1=>(idx l1 a).bind λ_x1=>some (.next ((bC .i64 a 1),(l1.set a.toNat (⟨y1.1,y1.2⟩:Bp)),l2,aj)) else (idx in_ (bX .i64 (bi t.Hood) x.Level)).bind λx1=>(dS aj l2 aa ae ab aq ak).bind λy1=>(idx l1 a).bind λx2=>(neE y1.1).bind λu=>(bn (db aa ae ab aq ak t in_ a l1 x x1 y1 x2 u) bI (0,l2)).bind λl3=>some (.next ((bC .i64 a 1),(l1.set a.toNat (⟨x2.constant,y1.1⟩:Bp)),l3,y1.2))) else some (.out (l1,l2,aj)))
def eT (ah:Int) (ag:A1) (aa:Int) (ae:Ay) (ab:Aw) (aq:Int) (ak:Ax) (t:Tree) (in_:AA):Option (Int×A0×A1×Int) :=(mkL 32 (bi t.Nodes) (bi t.Nodes) (⟨0,[]⟩:Bp)).bind λ_l=>(bn (dc aa ae ab aq ak t in_) bI (0,(List.replicate (bi t.Nodes).toNat (⟨0,[]⟩:Bp)),ag,ah)).bind λ(l1,l2,aj)=>(idx l1 (bX .i64 (bi l1) 1)).bind λx=>some (x.constant,x.vars,l2,aj)
def dR (ah:Int) (ag:A1) (_aa:Int) (_ae:Ay) (_ab:Aw) (_aq:Int) (_ak:Ax):Al :=((bif (gtB ah 65536)then some true else some (gtB (bi ag) 262144))).bind λa=>some a
def cZ (_aa:Int) (ae:Ay) (_ab:Aw) (_aq:Int) (f:Bq) (_box:Box) (_fixed:Bool) (y x:Int) (_l2:AA) (_l3:A1) (_aw:Int) (_mp1:Ax) (stt:Int×AA):Option (Lp (Int×AA) (AA)):=match stt with|(a,in_)=>(bif (ltB a (bi ae))then (idx ae a).bind λx1=>(ji f (bC .i64 x x1.X) (bC .i64 y x1.Y)).bind λy1=>(iK 32 in_ [y1]).bind λ_l4=>some (.next ((bC .i64 a 1),(in_++[y1]))) else some (.out in_))
def cS (aa:Int) (ae:Ay) (ab:Aw) (aq:Int) (f:Bq) (box:Box) (fixed:Bool) (y:Int) (stt:Int×AA×A1×Int×Ax):Option (Lp (Int×AA×A1×Int×Ax) (AB ⊕ (AA×A1×Int×Ax))):=match stt with|(x,l2,l3,aw,mp1)=>(bif (ltB x (bC .i64 box.X box.W))then (bn (cZ aa ae ab aq f box fixed y x l2 l3 aw mp1) bI (0,[])).bind λin_=>((bif fixed then (fQ aw l3 aa ae ab aq mp1 in_).bind λy1=>some (y1.1,y1.2.1,y1.2.2.1,y1.2.2.2) else some (aa,ae,ab,mp1))).bind λ(aA,aM,aC,mp2)=>(eT aw l3 aa ae ab aq mp2 (⟨aA,aM,aC⟩:Tree) in_).bind λy1=>(iK 32 l2 [(⟨y1.1,y1.2.1⟩:Bp)]).bind λ_l4=>(dR y1.2.2.2 y1.2.2.1 aa ae ab aq mp2).bind λy2=>(bif y2 then some (.out (.inl (0,0,0,0,[],false,y1.2.2.2,mp2,y1.2.2.1))) else some (.next ((bC .i64 x 1),(l2++[(⟨y1.1,y1.2.1⟩:Bp)]),y1.2.2.1,y1.2.2.2,mp2))) else some (.out (.inr (l2,l3,aw,mp1))))
def dD (aa:Int) (ae:Ay) (ab:Aw) (aq:Int) (f:Bq) (box:Box) (fixed:Bool) (stt:Int×AA×A1×Int×Ax):Option (Lp (Int×AA×A1×Int×Ax) (AB ⊕ (AA×A1×Int×Ax))):=match stt with
 |(y,l,l1,aj,mp)=>(bif (ltB y (bC .i64 box.Y box.H))then (bn (cS aa ae ab aq f box fixed y) bI (box.X,l,l1,aj,mp)).bind λo=>match o with
    |.inl r=>some (.out (.inl r))|.inr (l2,l3,aw,mp1)=>some (.next ((bC .i64 y 1),l2,l3,aw,mp1)) else some (.out (.inr (l,l1,aj,mp))))
def fD (ah:Int) (ag:A1) (aa:Int) (ae:Ay) (ab:Aw) (aq:Int) (ak:Ax) (f:Bq) (box:Box) (fixed:Bool):Option AB :=(bn (dD aa ae ab aq f box fixed) bI (box.Y,[],ag,ah,ak)).bind λo=>match o with|.inl r=>some r|.inr (l,l1,aj,mp)=>some (box.X,box.Y,box.W,box.H,l,true,aj,mp,l1)
def fe (ah aa:Int) (ae:Ay) (ab:Aw) (aq:Int) (ak:Ax) (vars:A0) (cv:Int) (stt:Int×A1):Option (Lp (Int×A1) (A1)):=match stt with|(a,l)=>(bif (ltB a (bi vars))then (idx vars a).bind λx=>((ishr .i64 cv a).bind λn=>(bif (eqB (iand .i64 n 1) 0)then some (cM .i64 x) else some x)).bind λv=>(dz ah l aa ae ab aq ak [v]).bind λ_y=>some (.next ((bC .i64 a 1),(l++[[v]]))) else some (.out l))
def fO (ah:Int) (ag:A1) (aa:Int) (ae:Ay) (ab:Aw) (aq:Int) (ak:Ax) (vars:A0) (cv:Int):Option A1 :=(bn (fe ah aa ae ab aq ak vars cv) bI (0,ag)).bind λl=>some l
def fI (_ah:Int) (ag:A1) (_aa:Int) (_ae:Ay) (_ab:Aw) (_aq:Int) (_ak:Ax):Option (Unit) :=(iK 24 ag [[]]).bind λ_l=>some ()
def fx (gv:Grid) (y3:Int) (y4:Int×Ay×Aw×Int) (y5:AA×A1×Int) (stt:Int×Ax×Int×A1):Option (Lp (Int×Ax×Int×A1) ((Bo×Int×Int) ⊕ (Ax×Int×A1))):=match stt with|(a,mp,ah,l)=>(bif (ltB a (bi gv.Cells))then (idx gv.Cells a).bind λx=>(irem a gv.W).bind λn=>(iquo .i64 a gv.W).bind λn1=>(fD ah l y4.1 y4.2.1 y4.2.2.1 y4.2.2.2 mp (⟨⟨(⟨(cM .i64 y3),(cM .i64 y3),(bC .i64 gv.W (cg .i64 2 y3)),(bC .i64 gv.H (cg .i64 2 y3))⟩:Box).X,(⟨(cM .i64 y3),(cM .i64 y3),(bC .i64 gv.W (cg .i64 2 y3)),(bC .i64 gv.H (cg .i64 2 y3))⟩:Box).Y,(⟨(cM .i64 y3),(cM .i64 y3),(bC .i64 gv.W (cg .i64 2 y3)),(bC .i64 gv.H (cg .i64 2 y3))⟩:Box).W,(⟨(cM .i64 y3),(cM .i64 y3),(bC .i64 gv.W (cg .i64 2 y3)),(bC .i64 gv.H (cg .i64 2 y3))⟩:Box).H⟩,y5.1⟩:Bq) (⟨n,n1,1,1⟩:Box) false).bind λy6=>(bif (eR y6.2.2.2.2.2.1)then some (.out (.inl ((⟨0,[]⟩:Bo),0,6))) else (idx y6.2.2.2.2.1 0).bind λx1=>(bif (eR (isE x1.vars))then (neE x1.vars).bind λ_u=>(fO y6.2.2.2.2.2.2.1 y6.2.2.2.2.2.2.2.2 y4.1 y4.2.1 y4.2.2.1 y4.2.2.2 y6.2.2.2.2.2.2.2.1 x1.vars x).bind λy7=>some (.next ((bC .i64 a 1),y6.2.2.2.2.2.2.2.1,y6.2.2.2.2.2.2.1,y7)) else (bif (neB x1.constant x)then (fI y6.2.2.2.2.2.2.1 y6.2.2.2.2.2.2.2.2 y4.1 y4.2.1 y4.2.2.1 y4.2.2.2 y6.2.2.2.2.2.2.2.1).bind λ_y7=>some (.next ((bC .i64 a 1),y6.2.2.2.2.2.2.2.1,y6.2.2.2.2.2.2.1,(y6.2.2.2.2.2.2.2.2++[[]]))) else some (.next ((bC .i64 a 1),y6.2.2.2.2.2.2.2.1,y6.2.2.2.2.2.2.1,y6.2.2.2.2.2.2.2.2))))) else some (.out (.inr (mp,ah,l))))
def eB (t:Tree) (gv:Grid):Option (Bo×Int×Int) :=(gZ t).bind λy=>(bif (eR y)then some ((⟨0,[]⟩:Bo),0,11) else (lR gv).bind λy1=>(bif (eR y1)then some ((⟨0,[]⟩:Bo),0,2) else (bG gv.Cells t).bind λy2=>(bif y2 then some ((⟨0,[]⟩:Bo),0,10) else (cR t.Hood).bind λy3=>(bif (gtB (cg .i64 (bC .i64 gv.W (cg .i64 2 y3)) (bC .i64 gv.H (cg .i64 2 y3))) 16)then some ((⟨0,[]⟩:Bo),0,6) else (lD t).bind λy4=>(fy 0 [] y4.1 y4.2.1 y4.2.2.1 y4.2.2.2 [] (⟨(cM .i64 y3),(cM .i64 y3),(bC .i64 gv.W (cg .i64 2 y3)),(bC .i64 gv.H (cg .i64 2 y3))⟩:Box)).bind λy5=>(bn (fx gv y3 y4 y5) bI (0,[],y5.2.2,y5.2.1)).bind λo=>match o with
      |.inl r=>some r|.inr (mp,ah,l)=>(dR ah l y4.1 y4.2.1 y4.2.2.1 y4.2.2.2 mp).bind λy6=>(bif y6 then some ((⟨0,[]⟩:Bo),0,6) else some ((⟨ah,l⟩:Bo),y5.2.2,0))))))
def fT (_f:Bo) (n bits:Int) (stt:Int×A0):Option (Lp (Int×A0) (A0)):=match stt with|(a,vars)=>(bif (ltB a (bi (List.replicate n.toNat ())))then (iquo .i64 a bits).bind λn1=>(irem a bits).bind λn2=>(idx vars a).bind λ_x=>some (.next ((bC .i64 a 1),(vars.set a.toNat (bX .i64 (bX .i64 (bC .i64 (cg .i64 n1 bits) bits) 1) n2)))) else some (.out vars))
def fS (_f:Bo) (n:Int) (vars:A0) (_a:Int) (_l1:A1) (x:A0) (stt:Int×A0):Option (Lp (Int×A0) (A0)):=match stt with|(a1,l3)=>(bif (ltB a1 (bi x))then (idx x a1).bind λx1=>((bif (leB (iW x1 (cM .i64 x1)) n)then (idx vars (bX .i64 (iW x1 (cM .i64 x1)) 1)).bind λx2=>some (bC .i64 x2 1) else some (iW x1 (cM .i64 x1)))).bind λv=>((bif (ltB x1 0)then some (cM .i64 v) else some v)).bind λv1=>(idx l3 a1).bind λ_x2=>some (.next ((bC .i64 a1 1),(l3.set a1.toNat v1))) else some (.out l3))
def eV (f:Bo) (n:Int) (vars:A0) (stt:Int×A1):Option (Lp (Int×A1) (A1)):=match stt with|(a,l1)=>(bif (ltB a (bi f.Clauses))then (idx f.Clauses a).bind λx=>(mkL 8 (bi x) (bi x) 0).bind λ_l2=>(bn (fS f n vars a l1 x) bI (0,(List.replicate (bi x).toNat 0))).bind λl3=>(iK 24 l1 [l3]).bind λ_l4=>some (.next ((bC .i64 a 1),(l1++[l3]))) else some (.out l1))
def jn (f:Bo) (n bits:Int):Option (Bo×A0) :=(mkL 8 n n 0).bind λ_l=>(bn (fT f n bits) bI (0,(List.replicate n.toNat 0))).bind λvars=>(bn (eV f n vars) bI (0,[])).bind λl1=>some ((⟨f.Vars,l1⟩:Bo),vars)
def iD (vars:Int) (l:A0) (stt:Int):Option (Lp (Int) (Bool ⊕ Unit)):=match stt with|a=>(bif (ltB a (bi l))then (idx l a).bind λx=>((bif (eqB x 0)then some true else (bif (gtB x vars)then some true else some (ltB x (cM .i64 vars))))).bind λa1=>(bif a1 then some (.out (.inl false)) else some (.next (bC .i64 a 1))) else some (.out (.inr ())))
def k9 (vars:Int) (l:A0):Al :=(bn (iD vars l) bI 0).bind λo=>match o with|.inl r=>some r|.inr _u=>some true
def jr (f:Bo) (stt:Int):Option (Lp (Int) (Bool ⊕ Unit)):=match stt with|a1=>(bif (ltB a1 (bi f.Clauses))then (idx f.Clauses a1).bind λx=>(k9 f.Vars x).bind λy=>(bif (eR y)then some (.out (.inl false)) else some (.next (bC .i64 a1 1))) else some (.out (.inr ())))
def jf (f:Bo):Al :=((bif (ltB f.Vars 0)then some true else (bif (gtB f.Vars 65536)then some true else some (gtB (bi f.Clauses) 262144)))).bind λa=>(bif a then some false else (bn (jr f) bI 0).bind λo=>match o with
   |.inl r=>some r|.inr _u=>some true)
def gD (l:A0):Option A0:=sortIM l
def fL (l:A0):Option (A0×Nat):=cmpIM l
def eZ (ar _av:A0) (_edone:Int) (_am:Az) (_ebad:Bool) (x:Int):At :=(bif (ltB x 0)then (idx ar (cM .i64 x)).bind λx1=>some (cM .i8 x1) else (idx ar x).bind λx1=>some x1)
def dw (ar av:A0) (_edone:Int) (_ebad:Bool) (x:Int):Option A0 :=((bif (gtB x 0)then (idx ar x).bind λ_x1=>some (ar.set x.toNat 1) else (idx ar (cM .i64 x)).bind λ_x1=>some (ar.set (cM .i64 x).toNat (-1)))).bind λl=>(iK 8 av [x]).bind λ_l1=>some l
def dU (_f:Bo) (_a:Int) (_l1:A0) (_ebad:Bool) (l2:A1) (_l3:A0) (y2:A0×Nat) (_u:Unit) (stt:Int×A3):Option (Lp (Int×A3) (A3)):=match stt with|(a1,mp1)=>(bif (ltB a1 (lenP 0 2))then (idxP (y2.1.take y2.2) 0 2 a1).bind λx1=>(kckL [x1]).bind λ_u1=>(iK 8 (el mp1 x1 []) [(bi l2)]).bind λ_l5=>some (.next ((bC .i64 a1 1),(ga (jj mp1 x1) x1 ((el mp1 x1 [])++[(bi l2)])))) else some (.out mp1))
def dV (f:Bo) (stt:Int×A3×A0×Bool×A1×A0):Option (Lp (Int×A3×A0×Bool×A1×A0) ((A3×A0×Bool×A1×A0))):=match stt with|(a,mp,l1,ebad,l2,l3)=>(bif (ltB a (bi f.Clauses))then (idx f.Clauses a).bind λx=>(bU x).bind λy=>(gD y).bind λy1=>(fL y1).bind λy2=>(bif (eqB (bi (y2.1.take y2.2)) 0)then some (.next ((bC .i64 a 1),mp,l1,true,l2,l3)) else (bif (eqB (bi (y2.1.take y2.2)) 1)then (idx (y2.1.take y2.2) 0).bind λx1=>(eZ l1 l3 0 [] ebad x1).bind λy3=>(bif (eqB y3 (-1))then some (.next ((bC .i64 a 1),mp,l1,true,l2,l3)) else (bif (eqB y3 0)then (dw l1 l3 0 ebad x1).bind λy4=>some (.next ((bC .i64 a 1),mp,y4,ebad,l2,(l3++[x1]))) else some (.next ((bC .i64 a 1),mp,l1,ebad,l2,l3)))) else (iK 24 l2 [(y2.1.take y2.2)]).bind λ_l4=>(oT (y2.1.take y2.2) 0 2).bind λu=>(bn (dU f a l1 ebad l2 l3 y2 u) bI (0,mp)).bind λmp1=>some (.next ((bC .i64 a 1),mp1,l1,ebad,(l2++[(y2.1.take y2.2)]),l3)))) else some (.out (mp,l1,ebad,l2,l3)))
def gC (f:Bo):Option (A3×A0×Bool×A1×A0) :=(mkL 1 (bC .i64 f.Vars 1) (bC .i64 f.Vars 1) 0).bind λ_l=>(bn (dV f) bI (0,([]:A3),(List.replicate (bC .i64 f.Vars 1).toNat 0),false,([]:A1),[])).bind λ(mp,l1,ebad,l2,l3)=>some (mp,l1,ebad,l2,l3)
def ib (y:Int) (aW b0:A0) (b9:Int) (aP:Az) (abad:Bool):Al :=(eZ aW b0 b9 aP abad y).bind λy1=>some (neB y1 (-1))
def bB (s aD aJ:A0) (aR:Int) (az:Az) (aY:Bool) (stt:Int):Option (Lp (Int) (Int ⊕ Unit)):=match stt with|a=>(bif (ltB a (bi s))then (idx s a).bind λx=>(ib x aD aJ aR az aY).bind λy=>(bif y then some (.out (.inl a)) else some (.next (bC .i64 a 1))) else some (.out (.inr ())))
def bN (s aD aJ:A0) (aR:Int) (az:Az) (aY:Bool):At :=(bn (bB s aD aJ aR az aY) bI 0).bind λo=>match o with|.inl r=>some r|.inr _u=>some (-1)
def cL (ax:A3) (edone:Int) (am:Az) (ebad:Bool) (x:Int) (_u:Unit) (stt:Nat×Int×A0×A0×A1×A3×A0):Option (Lp (Nat×Int×A0×A0×A1×A3×A0) ((Bool×A0×A1×A3×A0) ⊕ (Nat×A0×A0×A1×A3×A0))):=match stt with|(n,a,old,l2,l,mp,l1)=>(bif (ltB a (bi (el ax x [])))then (idx old a).bind λx1=>(idx l x1).bind λx2=>((idx x2 0).bind λx3=>(bif (eqB x3 x)then (idx x2 1).bind λx4=>(idx (x2.set 0 x4) 1).bind λ_x5=>some ((x2.set 0 x4).set 1 x3) else some x2)).bind λcv=>(idx cv 0).bind λx3=>(eZ l1 l2 edone am ebad x3).bind λy=>(bif (eqB y 1)then (lenK old (n+1)).bind λ_u2=>some (.next ((n+1),(bC .i64 a 1),(iy old n [x1]),l2,(l.set x1.toNat cv),mp,l1)) else (oT cv 2 cv.length).bind λ_u2=>(bN (subL cv 2 cv.length) l1 l2 edone am ebad).bind λy1=>(bif (geB y1 0)then (idx cv (bC .i64 y1 2)).bind λx4=>(idx cv 1).bind λx5=>(idx (cv.set 1 x4) (bC .i64 y1 2)).bind λ_x6=>(idx ((cv.set 1 x4).set (bC .i64 y1 2).toNat x5) 1).bind λx7=>(kckL [x7]).bind λ_u3=>(ckB (neB x x7)).bind λ_u4=>(iK 8 (el mp x7 []) [x1]).bind λ_l3=>some (.next (n,(bC .i64 a 1),old,l2,(l.set x1.toNat ((cv.set 1 x4).set (bC .i64 y1 2).toNat x5)),(ga (jj mp x7) x7 ((el mp x7 [])++[x1])),l1)) else (lenK old (n+1)).bind λ_u3=>(bif (eqB y (-1))then (oT (iy old n [x1]) (bC .i64 a 1) (iy old n [x1]).length).bind λ_u4=>(lenK (iy old n [x1]) ((n+1)+(subL (iy old n [x1]) ((bC .i64 a 1).toNat) ((iy old n [x1]).length)).length)).bind λ_u5=>(kckL [x]).bind λ_u6=>(ckB (d5 mp x)).bind λ_u7=>(lenK (iy (iy old n [x1]) (n+1) (subL (iy old n [x1]) ((bC .i64 a 1).toNat) ((iy old n [x1]).length))) ((n+1)+(subL (iy old n [x1]) ((bC .i64 a 1).toNat) ((iy old n [x1]).length)).length)).bind λ_u8=>some (.out (.inl (false,l2,(l.set x1.toNat cv),(ga mp x ((iy (iy old n [x1]) (n+1) (subL (iy old n [x1]) ((bC .i64 a 1).toNat) ((iy old n [x1]).length))).take ((n+1)+(subL (iy old n [x1]) ((bC .i64 a 1).toNat) ((iy old n [x1]).length)).length))),l1))) else (dw l1 l2 edone ebad x3).bind λy2=>some (.next ((n+1),(bC .i64 a 1),(iy old n [x1]),(l2++[x3]),(l.set x1.toNat cv),mp,y2))))) else some (.out (.inr (n,old,l2,l,mp,l1))))
def eN (aI:A1) (ax:A3) (ar av:A0) (edone:Int) (am:Az) (ebad:Bool) (x:Int):Option (Bool×A0×A1×A3×A0) :=(kckL [x]).bind λu=>(oT (el ax x []) 0 0).bind λ_u1=>(bn (cL ax edone am ebad x u) bI (0,0,(el ax x []),av,aI,(jj ax x),ar)).bind λo=>match o with|.inl r=>some r|.inr (n,l,l1,l2,mp,l3)=>(ckB (d5 mp x)).bind λ_u2=>(lenK l n).bind λ_u3=>some (true,l1,l2,(ga mp x (l.take n)),l3)
def bO (am:Az) (ebad:Bool) (stt:A0×Int×A1×A3×A0):Option (Lp (A0×Int×A1×A3×A0) ((Bool×Int×A1×A3×A0×A0) ⊕ (A0×Int×A1×A3×A0))):=match stt with|(l2,aF,l,mp,l1)=>(bif (ltB aF (bi l2))then (idx l2 aF).bind λx=>(eN l mp l1 l2 aF am ebad (cM .i64 x)).bind λy=>(bif (eR y.1)then some (.out (.inl (false,aF,y.2.2.1,y.2.2.2.1,y.2.2.2.2,y.2.1))) else some (.next (y.2.1,(bC .i64 aF 1),y.2.2.1,y.2.2.2.1,y.2.2.2.2))) else some (.out (.inr (l2,aF,l,mp,l1))))
def dq (aI:A1) (ax:A3) (ar av:A0) (edone:Int) (am:Az) (ebad:Bool):Option (Bool×Int×A1×A3×A0×A0) :=(bn (bO am ebad) bI (av,edone,aI,ax,ar)).bind λo=>match o with|.inl r=>some r|.inr (l,bdone,l1,mp,l2)=>some (true,bdone,l1,mp,l2,l)
def dj (av:A0) (_edone:Int) (_am:Az) (_ebad:Bool) (x:Br) (stt:Int×A0):Option (Lp (Int×A0) (A0)):=match stt with|(a,l)=>(bif (ltB a (lenP x.trail.toNat av.length))then (idxP av x.trail.toNat av.length a).bind λx1=>(idx l (iW x1 (cM .i64 x1))).bind λ_x2=>some (.next ((bC .i64 a 1),(l.set (iW x1 (cM .i64 x1)).toNat 0))) else some (.out l))
def gk (ar av:A0) (edone:Int) (am:Az) (ebad:Bool):Option (Int×Int×Bool×A0×A0) :=(idx am (bX .i64 (bi am) 1)).bind λx=>(oT am 0 (bX .i64 (bi am) 1)).bind λ_u2=>(oT av x.trail av.length).bind λ_u3=>(bn (dj av edone am ebad x) bI (0,ar)).bind λl=>(oT av 0 x.trail).bind λ_u4=>some (x.variable_,x.trail,x.turned,(av.take x.trail.toNat),l)
def e8 (ar av:A0) (edone:Int) (am:Az) (ebad:Bool) (x:Int) (turned:Bool):Option A0 :=(iK 24 am [(⟨(iW x (cM .i64 x)),(bi av),turned⟩:Br)]).bind λ_l=>(dw ar av edone ebad x).bind λy=>some y
def cP (ebad:Bool) (n:Int) (stt:A0×Az×Int×A0):Option (Lp (A0×Az×Int×A0) ((Bool×Int×A0×A0×Az) ⊕ (A0×Az×Int×A0))):=match stt with|(l1,l2,aF,l)=>(bif (gtB (bi l2) 0)then (gk l l1 aF l2 ebad).bind λy=>((bif (eR y.2.2.1)then some (leB y.1 n) else some false)).bind λa=>(bif a then (e8 y.2.2.2.2 y.2.2.2.1 y.2.1 (l2.take ((bX .i64 (bi l2) 1).toNat)) ebad y.1 true).bind λy1=>some (.out (.inl (true,y.2.1,y1,(y.2.2.2.1++[y.1]),((l2.take ((bX .i64 (bi l2) 1).toNat))++[(⟨(iW y.1 (cM .i64 y.1)),(bi y.2.2.2.1),true⟩:Br)])))) else some (.next (y.2.2.2.1,(l2.take ((bX .i64 (bi l2) 1).toNat)),y.2.1,y.2.2.2.2))) else some (.out (.inr (l1,l2,aF,l))))
def dX (ar av:A0) (edone:Int) (am:Az) (ebad:Bool) (n:Int):Option (Bool×Int×A0×A0×Az) :=(bn (cP ebad n) bI (av,am,edone,ar)).bind λo=>match o with|.inl r=>some r|.inr (l,l1,bdone,l2)=>some (false,bdone,l2,l,l1)
def cn (ar:A0) (ebad:Bool) (l3:Az) (y:Bool×Int×A1×A3×A0×A0) (stt:Int):Option (Lp (Int) ((Az×A0×A0) ⊕ Unit)):=match stt with|v=>(bif (leB v (bX .i64 (bi ar) 1))then (idx y.2.2.2.2.1 v).bind λx=>(bif (eqB x 0)then (e8 y.2.2.2.2.1 y.2.2.2.2.2 y.2.1 l3 ebad (cM .i64 v) false).bind λy1=>some (.out (.inl ((l3++[(⟨(iW (cM .i64 v) (cM .i64 (cM .i64 v))),(bi y.2.2.2.2.2),false⟩:Br)]),(y.2.2.2.2.2++[(cM .i64 v)]),y1))) else some (.next (bC .i64 v 1))) else some (.out (.inr ())))
def bK (ar:A0) (ebad:Bool) (stt:A0×Az×Int×A1×A3×A0):Option (Lp (A0×Az×Int×A1×A3×A0) ((Bool×Int×A1×A3×A0×A0×Az))):=match stt with
 |(l2,l3,aF,l,mp,l1)=>(dq l mp l1 l2 aF l3 ebad).bind λy=>(bif (eR y.1)then (dX y.2.2.2.2.1 y.2.2.2.2.2 y.2.1 l3 ebad (bX .i64 (bi ar) 1)).bind λy1=>(bif (eR y1.1)then some (.out (false,y1.2.1,y.2.2.1,y.2.2.2.1,y1.2.2.1,y1.2.2.2.1,y1.2.2.2.2)) else some (.next (y1.2.2.2.1,y1.2.2.2.2,y1.2.1,y.2.2.1,y.2.2.2.1,y1.2.2.1))) else (bn (cn ar ebad l3 y) bI 1).bind λo=>match o with
    |.inl (l4,l5,l6)=>some (.next (l5,l4,y.2.1,y.2.2.1,y.2.2.2.1,l6))|.inr _u=>some (.out (true,y.2.1,y.2.2.1,y.2.2.2.1,y.2.2.2.2.1,y.2.2.2.2.2,l3)))
def cW (aI:A1) (ax:A3) (ar av:A0) (edone:Int) (am:Az) (ebad:Bool):Option (Bool×Int×A1×A3×A0×A0×Az) :=(bif ebad then some (false,edone,aI,ax,ar,av,am) else (bn (bK ar ebad) loopG (av,am,edone,aI,ax,ar)).bind λr=>some r)
def da (ar:A0) (_edone:Int) (_ebad:Bool) (n:Int) (stt:Int×Af):Option (Lp (Int×Af) (Af)):=match stt with|(a,out)=>(bif (ltB a (bi (List.replicate n.toNat ())))then (idx ar (bC .i64 a 1)).bind λx=>(idx out a).bind λ_x1=>some (.next ((bC .i64 a 1),(out.set a.toNat (eqB x 1)))) else some (.out out))
def eF (ar:A0) (edone:Int) (ebad:Bool) (n:Int):Option Af :=(mkL 1 n n false).bind λ_l=>(bn (da ar edone ebad n) bI (0,(List.replicate n.toNat false))).bind λout=>some out
def lf (f:Bo):Option (Af×Bool×Int) :=(jf f).bind λy=>(bif (eR y)then some ([],false,2) else (gC f).bind λy1=>(cW y1.2.2.2.1 y1.1 y1.2.1 y1.2.2.2.2 0 [] y1.2.2.1).bind λy2=>(bif (eR y2.1)then some ([],false,0) else (eF y2.2.2.2.2.1 y2.2.1 y1.2.2.1 f.Vars).bind λy3=>some (y3,true,0)))
def iB (t:Tree) (gv:Grid):Option (Int×Int×Int) :=(cR t.Hood).bind λy=>(kr t.States).bind λy1=>(some ()).bind λ_u=>some (y1,(bC .i64 gv.W (cg .i64 2 y)),(bC .i64 gv.H (cg .i64 2 y)))
def gG (l:Af) (vars:A0) (stt:Int×Af):Option (Lp (Int×Af) (Af)):=match stt with|(a,out)=>(bif (ltB a (bi vars))then (idx vars a).bind λx=>(idx l x).bind λx1=>(idx out a).bind λ_x2=>some (.next ((bC .i64 a 1),(out.set a.toNat x1))) else some (.out out))
def l9 (l:Af) (vars:A0):Option Af :=(mkL 1 (bi vars) (bi vars) false).bind λ_l1=>(bn (gG l vars) bI (0,(List.replicate (bi vars).toNat false))).bind λout=>some out
def oa (l:Af) (stt:Int×Int):Option (Lp (Int×Int) (Int)):=match stt with|(n,a)=>(bif (ltB a (bi l))then ((idx l a).bind λx=>(bif x then (ishl .i64 1 a).bind λn1=>some (ior .i64 n n1) else some n)).bind λn1=>some (.next (n1,(bC .i64 a 1))) else some (.out n))
def mg (l:Af):At :=(bif (gtB (bi l) 8)then some 0 else (bn (oa l) bI (0,0)).bind λn=>some n)
def dm (l:Af) (a a1 a2:Int) (stt:Int×A0):Option (Lp (Int×A0) (A0)):=match stt with|(a3,l1)=>(bif (ltB a3 (cg .i64 a a1))then (slcL l (cg .i64 a3 a2) (cg .i64 (bC .i64 a3 1) a2)).bind λl2=>(mg l2).bind λy=>(iK 8 l1 [y]).bind λ_l3=>some (.next ((bC .i64 a3 1),(l1++[y]))) else some (.out l1))
def cz (l:Af) (a a1 a2:Int):Option A0 :=(bn (dm l a a1 a2) bI (0,[])).bind λl1=>some l1
def dQ (t:Tree) (gv:Grid):Option (Grid×Bool×Int) :=(eB t gv).bind λy=>(bif (neB y.2.2 0)then some ((⟨0,0,0,[]⟩:Grid),false,y.2.2) else (kr t.States).bind λy1=>(jn y.1 y.2.1 y1).bind λy2=>(lf y2.1).bind λy3=>((bif (neB y3.2.2 0)then some true else some (eR y3.2.1))).bind λa=>(bif a then some ((⟨0,0,0,[]⟩:Grid),false,y3.2.2) else (iB t gv).bind λy4=>(l9 y3.1 y2.2).bind λy5=>(cz y5 y4.2.1 y4.2.2 y4.1).bind λy6=>some ((⟨y4.2.1,y4.2.2,0,y6⟩:Grid),true,0)))
def ey (n most:Int) (y:A3×A0×Bool×A1×A0) (stt:Bool×A3×A0×Int×A1×(List Af)×A0×Az):Option (Lp (Bool×A3×A0×Int×A1×(List Af)×A0×Az) (((List Af)×Int) ⊕ (List Af))):=match stt with|(ok,mp,l,edone,l1,out,l2,l3)=>(bif ok then (bif (geB (bi out) most)then some (.out (.inl ([],14))) else (eF l edone y.2.2.1 n).bind λy2=>(iK 24 out [y2]).bind λ_l4=>(dX l l2 edone l3 y.2.2.1 n).bind λy3=>(bif y3.1 then (cW l1 mp y3.2.2.1 y3.2.2.2.1 y3.2.1 y3.2.2.2.2 y.2.2.1).bind λy4=>some (.next (y4.1,y4.2.2.2.1,y4.2.2.2.2.1,y4.2.1,y4.2.2.1,(out++[y2]),y4.2.2.2.2.2.1,y4.2.2.2.2.2.2)) else some (.next (false,mp,y3.2.2.1,y3.2.1,l1,(out++[y2]),y3.2.2.2.1,y3.2.2.2.2)))) else some (.out (.inr out)))
def ka (f:Bo) (n most:Int):Option ((List Af)×Int) :=((jf f).bind λy=>(bif (eR y)then some true else (bif (ltB n 0)then some true else (bif (gtB n f.Vars)then some true else (bif (ltB most 0)then some true else some (gtB most 262144)))))).bind λa=>(bif a then some ([],2) else (gC f).bind λy=>(cW y.2.2.2.1 y.1 y.2.1 y.2.2.2.2 0 [] y.2.2.1).bind λy1=>(bn (ey n most y) bI (y1.1,y1.2.2.2.1,y1.2.2.2.2.1,y1.2.1,y1.2.2.1,[],y1.2.2.2.2.2.1,y1.2.2.2.2.2.2)).bind λo=>match o with
   |.inl r=>some r|.inr out=>some (out,0))
def dh (sv1 sv2:A0) (stt:Int):Option (Lp (Int) (Int ⊕ Unit)):=match stt with|a=>(bif (ltB a (bi sv1))then (idx sv1 a).bind λx=>(bif (geB a (bi sv2))then some (.out (.inl 1)) else (idx sv2 a).bind λx1=>(fP x x1).bind λy=>(bif (neB y 0)then some (.out (.inl y)) else some (.next (bC .i64 a 1)))) else some (.out (.inr ())))
def gr (sv1 sv2:A0):At :=(bn (dh sv1 sv2) bI 0).bind λo=>match o with|.inl r=>some r|.inr _u=>(bif (ltB (bi sv1) (bi sv2))then some (-1) else some 0)
def lT (a b:Grid):At :=(gr a.Cells b.Cells).bind λy=>some y
def ct (l:AD):Option AD:=sortR fM fK l
def iz (y1:(List Af)×Int) (y2:Int×Int×Int) (stt:Int×AD):Option (Lp (Int×AD) (AD)):=match stt with|(a1,out)=>(bif (ltB a1 (bi y1.1))then (idx y1.1 a1).bind λx=>(cz x y2.2.1 y2.2.2 y2.1).bind λy3=>(iK 48 out [(⟨y2.2.1,y2.2.2,0,y3⟩:Grid)]).bind λ_l=>some (.next ((bC .i64 a1 1),(out++[(⟨y2.2.1,y2.2.2,0,y3⟩:Grid)]))) else some (.out out))
def fg (t:Tree) (gv:Grid) (most:Int):Option (AD×Int) :=(eB t gv).bind λy=>(bif (neB y.2.2 0)then some ([],y.2.2) else ((bif (ltB most 1)then some true else some (gtB most 5000))).bind λa=>(bif a then some ([],2) else (ka y.1 y.2.1 most).bind λy1=>(bif (neB y1.2 0)then some ([],y1.2) else (iB t gv).bind λy2=>(bn (iz y1 y2) bI (0,[])).bind λout=>(ct out).bind λy3=>some (y3,0))))
def lm (s:Int) (a:Tree):Al :=some (geB s a.States)
def bS (s:A0) (cv:Tree) (stt:Int):Option (Lp (Int) (Int ⊕ Unit)):=match stt with|a=>(bif (ltB a (bi s))then (idx s a).bind λx=>(lm x cv).bind λy=>(bif y then some (.out (.inl a)) else some (.next (bC .i64 a 1))) else some (.out (.inr ())))
def cU (s:A0) (cv:Tree):At :=(bn (bS s cv) bI 0).bind λo=>match o with|.inl r=>some r|.inr _u=>some (-1)
def cj (s:A0) (cv:Tree):Al :=(cU s cv).bind λy=>some (geB y 0)
def jg (t:Tree) (gv:Grid):At :=(gZ t).bind λy=>(bif (eR y)then some 11 else (lR gv).bind λy1=>(bif (eR y1)then some 2 else (cj gv.Cells t).bind λy2=>(bif y2 then some 10 else some 0)))
def nK (s:Int) (a:Tree):Al :=((bif (ltB s 0)then some true else some (geB s a.States))).bind λa1=>some a1
def ce (s:A0) (cv:Tree) (stt:Int):Option (Lp (Int) (Int ⊕ Unit)):=match stt with|a=>(bif (ltB a (bi s))then (idx s a).bind λx=>(nK x cv).bind λy=>(bif y then some (.out (.inl a)) else some (.next (bC .i64 a 1))) else some (.out (.inr ())))
def d9 (s:A0) (cv:Tree):At :=(bn (ce s cv) bI 0).bind λo=>match o with|.inl r=>some r|.inr _u=>some (-1)
def cD (s:A0) (cv:Tree):Al :=(d9 s cv).bind λy=>some (geB y 0)
def k5 (t:Tree) (in_:A0) (stt:Int×Int):Option (Lp (Int×Int) (Int)):=match stt with|(k,a)=>(bif (ltB a (bi in_))then (idx in_ a).bind λx=>(idx t.Nodes k).bind λx1=>(idx x1.Next x).bind λx2=>some (.next (x2,(bC .i64 a 1))) else some (.out k))
def mV (t:Tree) (in_:A0):At :=(bn (k5 t in_) bI ((bX .i64 (bi t.Nodes) 1),0)).bind λk=>some k
def nN (t:Tree) (in_:A0):Option (Int×Int) :=(gZ t).bind λy=>(bif (eR y)then some (0,11) else (bif (neB (bi in_) (bi t.Hood))then some (0,2) else (cD in_ t).bind λy1=>(bif y1 then some (0,10) else (mV t in_).bind λy2=>some (y2,0))))
def ft (t:Tree) (gv:Grid) (y1 a1 a2:Int) (_l1:A0) (stt:Int×A0):Option (Lp (Int×A0) (A0)):=match stt with|(a3,in_)=>(bif (ltB a3 (bi t.Hood))then (idx t.Hood a3).bind λx=>(idx gv.Cells (bC .i64 (bC .i64 (bC .i64 (cg .i64 (bC .i64 (bC .i64 a1 y1) x.Y) gv.W) a2) y1) x.X)).bind λx1=>(iK 8 in_ [x1]).bind λ_l2=>some (.next ((bC .i64 a3 1),(in_++[x1]))) else some (.out in_))
def fo (t:Tree) (gv:Grid) (y1 a1:Int) (stt:Int×A0):Option (Lp (Int×A0) (A0)):=match stt with|(a2,l1)=>(bif (ltB a2 (bX .i64 gv.W (cg .i64 2 y1)))then (bn (ft t gv y1 a1 a2 l1) bI (0,[])).bind λin_=>(nN t in_).bind λy2=>(iK 8 l1 [y2.1]).bind λ_l2=>some (.next ((bC .i64 a2 1),(l1++[y2.1]))) else some (.out l1))
def fw (t:Tree) (gv:Grid) (y1:Int) (stt:Int×A0):Option (Lp (Int×A0) (A0)):=match stt with|(a1,l)=>(bif (ltB a1 (bX .i64 gv.H (cg .i64 2 y1)))then (bn (fo t gv y1 a1) bI (0,l)).bind λl1=>some (.next ((bC .i64 a1 1),l1)) else some (.out l))
def eI (t:Tree) (gv:Grid):Option (Grid×Int) :=(jg t gv).bind λy=>(bif (neB y 0)then some ((⟨0,0,0,[]⟩:Grid),y) else (cR t.Hood).bind λy1=>((bif (ltB (bX .i64 gv.W (cg .i64 2 y1)) 1)then some true else some (ltB (bX .i64 gv.H (cg .i64 2 y1)) 1))).bind λa=>(bif a then some ((⟨0,0,0,[]⟩:Grid),6) else (bn (fw t gv y1) bI (0,[])).bind λl=>some ((⟨(bX .i64 gv.W (cg .i64 2 y1)),(bX .i64 gv.H (cg .i64 2 y1)),0,l⟩:Grid),0)))
def mB (t:Tree) (n:Int) (stt:Int×Int×Int×A0×AD):Option (Lp (Int×Int×Int×A0×AD) (AD)):=match stt with|(gW,gH,b8,aZ,out)=>(bif (ltB (bi out) n)then (dQ t (⟨gW,gH,b8,aZ⟩:Grid)).bind λy1=>((bif (eqB y1.2.2 6)then some true else some (eR y1.2.1))).bind λa1=>(bif a1 then some (.out out) else (iK 48 out [y1.1]).bind λ_l=>some (.next (y1.1.W,y1.1.H,y1.1.Edge,y1.1.Cells,(out++[y1.1])))) else some (.out out))
def ny (t:Tree) (gv:Grid) (n:Int):Option (AD×Int) :=(jg t gv).bind λy=>(bif (neB y 0)then some ([],y) else ((bif (ltB n 0)then some true else some (gtB n 100))).bind λa=>(bif a then some ([],2) else (bn (mB t n) bI (gv.W,gv.H,gv.Edge,gv.Cells,[])).bind λout=>some (out,0)))
def kl (a b:Grid) (stt:Int):Option (Lp (Int) (Bool ⊕ Unit)):=match stt with|i=>(bif (ltB i (bi a.Cells))then (idx a.Cells i).bind λx=>(idx b.Cells i).bind λx1=>(bif (neB x x1)then some (.out (.inl false)) else some (.next (bC .i64 i 1))) else some (.out (.inr ())))
def iL (a b:Grid):Al :=((bif (neB a.W b.W)then some true else (bif (neB a.H b.H)then some true else (bif (neB a.Edge b.Edge)then some true else some (neB (bi a.Cells) (bi b.Cells)))))).bind λa1=>(bif a1 then some false else (bn (kl a b) bI 0).bind λo=>match o with
   |.inl r=>some r|.inr _u=>some true)
def eY:Al :=(m_L48_shift).bind λy=>(dQ y (⟨1,1,0,[1]⟩:Grid)).bind λy1=>(fg y (⟨1,1,0,[1]⟩:Grid) 256).bind λy2=>(fg y (⟨1,1,0,[1]⟩:Grid) 255).bind λy3=>(eI y y1.1).bind λy4=>(dQ (⟨2,[(⟨0,0⟩:Point)],[(⟨1,[1,1]⟩:Node)]⟩:Tree) (⟨1,1,0,[0]⟩:Grid)).bind λy5=>(ny y (⟨1,1,0,[1]⟩:Grid) 5).bind λy6=>(dQ (⟨0,[],[]⟩:Tree) (⟨1,1,0,[1]⟩:Grid)).bind λy7=>((bif y1.2.1 then (bif (eqB y1.2.2 0)then (iL y1.1 (⟨3,3,0,[0,0,0,1,0,0,0,0,0]⟩:Grid)).bind λy8=>(bif y8 then (bif (eqB y2.2 0)then (bif (eqB (bi y2.1) 256)then (bif (eqB y3.2 14)then (bif (eqB y4.2 0)then (iL y4.1 (⟨1,1,0,[1]⟩:Grid)).bind λy9=>(bif y9 then (bif (eR y5.2.1)then (bif (eqB y5.2.2 0)then (bif (eqB y6.2 0)then (bif (eqB (bi y6.1) 1)then some (eqB y7.2.2 11) else some false) else some false) else some false) else some false) else some false) else some false) else some false) else some false) else some false) else some false) else some false) else some false)).bind λa=>some a
def eg (a b:A0) (stt:Int):Option (Lp (Int) (Bool ⊕ Unit)):=match stt with|i=>((bif (ltB i (bi a))then some (ltB i (bi b)) else some false)).bind λa1=>(bif a1 then (idx a i).bind λx=>(idx b i).bind λx1=>(bif (neB x x1)then some (.out (.inl (ltB x x1))) else some (.next (bC .i64 i 1))) else some (.out (.inr ())))
def eG (a b:A0):Al :=(bn (eg a b) bI 0).bind λo=>match o with|.inl r=>some r|.inr _u=>some false
def gj (t:Tree) (gv:Grid) (y1:AD×Int) (stt:Int):Option (Lp (Int) (Bool ⊕ Unit)):=match stt with|a=>(bif (ltB a (bi y1.1))then (idx y1.1 a).bind λx=>(eI t x).bind λy2=>((bif (neB y2.2 0)then some true else (iL y2.1 (⟨gv.W,gv.H,0,gv.Cells⟩:Grid)).bind λy3=>(bif (eR y3)then some true else (bif (gtB a 0)then (idx y1.1 (bX .i64 a 1)).bind λx1=>(eG x1.Cells x.Cells).bind λy4=>some (eR y4) else some false)))).bind λa1=>(bif a1 then some (.out (.inl false)) else some (.next (bC .i64 a 1))) else some (.out (.inr ())))
def jR (t:Tree) (gv:Grid):Al :=(oM t gv).bind λy=>(bif (eR y)then (eY).bind λy1=>some y1 else (fg t gv 5000).bind λy1=>(bif (neB y1.2 0)then ((bif (eqB (bi y1.1) 0)then (eY).bind λy2=>some y2 else some false)).bind λa=>some a else (bn (gj t gv y1) bI 0).bind λo=>match o with
    |.inl r=>some r|.inr _u=>(eY).bind λy2=>some y2))
def fh (p:Grid) (y1:AD×Int) (stt:Int):Option (Lp (Int) (Bool ⊕ Unit)):=match stt with|a2=>(bif (ltB a2 (bi y1.1))then (idx y1.1 a2).bind λx=>(iL x (⟨p.W,p.H,0,p.Cells⟩:Grid)).bind λy2=>(bif y2 then (eY).bind λy3=>some (.out (.inl y3)) else some (.next (bC .i64 a2 1))) else some (.out (.inr ())))
def hZ (t:Tree) (p:Grid):Al :=((bif (gtB (bi p.Cells) 16)then some true else (mG t (⟨0,0,0,0,0,[]⟩:Bn)).bind λy=>some (eR y))).bind λa=>(bif a then (eY).bind λy=>some y else (eI t p).bind λy=>((bif (neB y.2 0)then some true else (oM t y.1).bind λy1=>some (eR y1))).bind λa1=>(bif a1 then (eY).bind λy1=>some y1 else (fg t y.1 5000).bind λy1=>(bif (neB y1.2 0)then (dQ t y.1).bind λy2=>((bif (eqB y1.2 14)then (bif y2.2.1 then (bif (eqB y2.2.2 0)then (eG p.Cells y2.1.Cells).bind λy3=>(bif (eR y3)then (eY).bind λy4=>some y4 else (bif (eqB y1.2 6)then (eY).bind λy4=>some y4 else some false)) else (bif (eqB y1.2 6)then (eY).bind λy3=>some y3 else some false)) else (bif (eqB y1.2 6)then (eY).bind λy3=>some y3 else some false)) else (bif (eqB y1.2 6)then (eY).bind λy3=>some y3 else some false))).bind λa2=>some a2 else (bn (fh p y1) bI 0).bind λo=>match o with
     |.inl r=>some r|.inr _u=>some false)))
abbrev vI (n:Int):V:=.u (.one (.d (.int .i64 n)))
abbrev dI (n:Int):C:=.d (.int .i64 n)
abbrev vX (k:Nat):V:=.u (.one (.box k 0))
abbrev vO (k:Nat):V:=.u (.one (.own k))
abbrev dL (l:A0):C:=.d (.sl 1 (List.map (rI .i64) l))
abbrev vT (b:Bool):V:=.u (.one (.d (.bool b)))
abbrev dR0 (l:AD):C:=.d (.sl 4 (List.map Grid.row l))
abbrev dR1 (l:Aw):C:=.d (.sl 2 (List.map Node.row l))
abbrev dR2 (l:Ay):C:=.d (.sl 2 (List.map Point.row l))
abbrev dR4 (l:AA):C:=.d (.sl 2 (List.map Bp.row l))
abbrev qQ (a):=(.row 1 3 (List.map (rI .i64) a):Ob)
abbrev qW (a):=(.row 1 26 (List.map (rS 1 (rI .i64)) a):Ob)
abbrev qX (a) (b) (c) (d) (e) (f) (g):=(.box [dI a,.own b,dI c,dR2 d,dR1 e,dI f,.map g]:Ob)
abbrev qY (a:Tree):=(.box [dI a.States,dR2 a.Hood,dR1 a.Nodes]:Ob)
abbrev qZ (a):=(.row 1 122 (List.map (rI .i8) a):Ob)
abbrev qK (a):=(mOb .str kS (uA Tree.row) a:Ob)
abbrev qJ (a:Tree):=(.agg [dI a.States,dR2 a.Hood,dR1 a.Nodes]:U)
abbrev qH (a):=(.row 3 127 (List.map Br.row a):Ob)
abbrev qG (a):=(mOb .str kS (uL (L.int .i64)) a:Ob)
abbrev qF (a):=(.u (.one (dL a)):V)
abbrev qD (a) (b) (c) (d) (e) (f) (g):=(.box [.own a,.map b,.own c,.own d,dI e,.own f,.d (.bool g)]:Ob)
abbrev qA (a):=(.row 2 92 (List.map Bp.row a):Ob)
abbrev qB (a:Grid):=(.box [dI a.W,dI a.H,dI a.Edge,dL a.Cells]:Ob)
abbrev qC (a:Grid):=(.u (.agg [dI a.W,dI a.H,dI a.Edge,dL a.Cells]):V)
abbrev qE (a):=(.d (.sl 1 (List.map (rS 1 (rI .i64)) a)):C)
abbrev qI (a):=(.row 2 51 (List.map Node.row a):Ob)
abbrev qL:=(.box [.fn 120 [.box 1000000 0,.box 1000002 0,.box 1000003 0,.box 1000004 0]]:Ob)
abbrev qM:=(.agg [dI 0,.d .nil,.d .nil]:U)
abbrev qN (a) (b) (c) (d) (e) (f) (g):=(.box [.opq a,.opq b,.own c,.own d,dI e,.own f,.d (.bool g)]:Ob)
abbrev qO (a):=(.row 1 5 (List.map (rI .u8) a):Ob)
abbrev qP:=(.box [dI 0,dI 0,dI 0,dI 0,.d .nil]:Ob)
abbrev qR:=(.box [dI 0,.d .nil,.d .nil]:Ob)
abbrev qS (a:Bq):=(.box [dI a.box.X,dI a.box.Y,dI a.box.W,dI a.box.H,dR4 a.values]:Ob)
abbrev qT (a):=(.u (.one (.d (.sl 1 (List.map rB a)))):V)
abbrev qU (a) (b) (c) (d) (e):=(qX a 1000001 b c d e 1000002:Ob)
abbrev qV (a:Node):=(.box [dI a.Level,dL a.Next]:Ob)
abbrev kQ (a:Box):=(.box [dI a.X,dI a.Y,dI a.W,dI a.H,.own 5002]:Ob)
abbrev kW (a) (b) (c) (d) (e):=(.u (.one (.fn 117 [.ref [.ref [.any,.any,(.sl 1 (List.map (rI .i8) a)),(.sl 1 (List.map (rI .i64) b)),(.int .i64 c),(.sl 3 (List.map Br.row d)),(.bool e)] 0] 0])):V)
abbrev kX (a:Tree):=(.u (.one (dR1 a.Nodes)):V)
abbrev kY:=(.box [dI 0,dI 0,dI 0,.d .nil]:Ob)
abbrev kZ:=(.box [dI 0,.d .nil]:Ob)
abbrev kK:=(.u (.one (.fn 106 [.box 1000000 0,.box 1000001 0,.box 1000002 0])):V)
abbrev kJ (a) (b) (c):=(.box [dI a,dR2 b,dR1 c]:Ob)
abbrev kH (a) (b) (c) (d) (e):=(.u (.one (.ref [.any,.any,(.sl 1 (List.map (rI .i8) a)),(.sl 1 (List.map (rI .i64) b)),(.int .i64 c),(.sl 3 (List.map Br.row d)),(.bool e)] 0)):V)
abbrev kG (a:Box):=(.box [dI a.X,dI a.Y,dI a.W,dI a.H,.own 5000]:Ob)
abbrev kF (a):=(.box [dI a]:Ob)
abbrev kD (a) (b):=(.box [.own a,.map b]:Ob)
abbrev kA (a):=(.u (.one (dR2 a)):V)
abbrev kB (a):=(.d (.bool a):C)
abbrev kC (a):=(.row 4 28 (List.map Grid.row a):Ob)
abbrev kE (a):=(.box [.own a]:Ob)
abbrev kL (a:Box):=(.box [dI a.X,dI a.Y,dI a.W,dI a.H]:Ob)
abbrev kM:=(.d (.bool false):C)
abbrev kN (a:Bo):=(.u (.one (qE a.Clauses)):V)
abbrev kO (a) (b) (c):=(.box [dI a,dI b,dI 0,.own c]:Ob)
abbrev kP (a:Bo):=(.u (.agg [dI a.Vars,qE a.Clauses]):V)
abbrev kR:=(.row 3 127 (List.map Br.row []):Ob)
abbrev kT (a) (b):=(qD 1000001 1000002 1000003 1000006 a 1000005 b:Ob)
abbrev kU (a:Bo):=(.box [dI a.Vars,.own 5000]:Ob)
abbrev kV (a:Bn):=(.box [dI a.W,dI a.H,dI a.Gens,dI a.DX,dI a.DY,dL a.Syms]:Ob)
abbrev jQ (a):=(.u (.one (.fn 53 [.ref (Tree.row a) 0])):V)
abbrev jW (a):=(.u (.one (.fn 55 [.ref (Tree.row a) 0])):V)
abbrev jX (a):=(.u (.one (.fn 36 [.ref (Tree.row a) 0])):V)
abbrev jY (a):=(.u (.one (.fn 92 [.ref (Node.row a) 0])):V)
abbrev jZ (a) (b) (c):=(kO (bX .i64 a (cg .i64 2 b)) (bX .i64 c (cg .i64 2 b)) 5001:Ob)
abbrev jK (a) (b) (c) (d) (e) (f):=(.box [.own a,.map b,.own c,.own d,dI 0,.own e,kB f]:Ob)
abbrev jJ (a) (b) (c) (d) (e) (f):=(.box [.opq a,.opq b,.own 1000001,.opq c,dI d,.opq e,kB f]:Ob)
abbrev jH (a:Bo):=(.box [dI a.Vars,qE a.Clauses]:Ob)
abbrev jG (a) (b) (c) (d) (e):=(.agg [dI a,dI b,dI c,dI d,dR4 e]:U)
abbrev jF (a) (b) (c) (d) (e):=(qX a 1000003 b c d e 1000002:Ob)
abbrev jD:=(kD 1000001 1000002:Ob)
abbrev jA:=(.box [.box 1000000 0]:Ob)
abbrev jB:=(.u (.one (.fn 89 [])):V)
abbrev jC (a) (b) (c):=(.agg [dI a,dR2 b,dR1 c]:U)
abbrev jE (a) (b):=(qD 1000001 1000002 1000003 1000004 a 1000005 b:Ob)
abbrev jI (a:Grid):=(.box [dI a.W,dI a.H,dI 0,dL a.Cells]:Ob)
abbrev jL (a) (b):=(qD 1000001 1000002 1000003 5002 a 1000005 b:Ob)
