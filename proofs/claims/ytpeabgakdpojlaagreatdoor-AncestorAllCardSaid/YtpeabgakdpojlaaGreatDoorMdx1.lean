/- The types of the program, as lists and numbers. -/
import Derived.Test.YtpeabgakdpojlaaGreatDoorAmSt
import Derived.Test.YtpeabgakdpojlaaGreatDoorAmFz
import Derived.Test.YtpeabgakdpojlaaGreatDoorAmOr
import Derived.Test.YtpeabgakdpojlaaGreatDoorAmSi
import Derived.Test.YtpeabgakdpojlaaGreatDoorAmSu
import Derived.Test.YtpeabgakdpojlaaGreatDoorAmZr
namespace Go.Proofs.YtpeabgakdpojlaaGreatDoor
open Go.AM Go.Proofs
theorem oF (k:IntKind) (l:A0) (i:Nat) (x:Int):(List.map (rI k) l).set i [L.int k x]=List.map (rI k) (l.set i x):=by rw[List.map_set];rfl
theorem rsetB (l:Af) (i:Nat) (x:Bool):(List.map rB l).set i [L.bool x]=List.map rB (l.set i x):=by rw[List.map_set];rfl
structure Point where
 X:Int
 Y:Int
 deriving DecidableEq,Inhabited
def Point.row (x:Point):Aj:=[.int .i64 x.X,.int .i64 x.Y]
theorem Point.row_eq (x:Point):x.row=[.int .i64 x.X,.int .i64 x.Y]:=rfl
def Point.key (x:Point):Key:=.ints [x.X,x.Y]
def Point.ints (x:Point):A0:=[x.X,x.Y]
instance:KeyF Point.key:=⟨λa b h=>by unfold Point.key at h;cases a;cases b;injection h with h;simp only[List.cons.injEq,and_true] at h;simp only[Point.mk.injEq];exact h⟩
structure Node where
 Level:Int
 Next:A0
 deriving DecidableEq,Inhabited
def Node.row (x:Node):Aj:=[.int .i64 x.Level,.sl 1 (List.map (rI .i64) x.Next)]
theorem Node.row_eq (x:Node):x.row=[.int .i64 x.Level,.sl 1 (List.map (rI .i64) x.Next)]:=rfl
structure Tree where
 States:Int
 Hood:List Point
 Nodes:List Node
 deriving DecidableEq,Inhabited
def Tree.row (x:Tree):Aj:=[.int .i64 x.States,.sl 2 (List.map Point.row x.Hood),.sl 2 (List.map Node.row x.Nodes)]
theorem Tree.row_eq (x:Tree):x.row=[.int .i64 x.States,.sl 2 (List.map Point.row x.Hood),.sl 2 (List.map Node.row x.Nodes)]:=rfl
structure Grid where
 W:Int
 H:Int
 Edge:Int
 Cells:A0
 deriving DecidableEq,Inhabited
def Grid.row (x:Grid):Aj:=[.int .i64 x.W,.int .i64 x.H,.int .i64 x.Edge,.sl 1 (List.map (rI .i64) x.Cells)]
theorem Grid.row_eq (x:Grid):x.row=[.int .i64 x.W,.int .i64 x.H,.int .i64 x.Edge,.sl 1 (List.map (rI .i64) x.Cells)]:=rfl
structure Bu where
 W:Int
 H:Int
 Gens:Int
 DX:Int
 DY:Int
 Syms:A0
 deriving DecidableEq,Inhabited
def Bu.row (x:Bu):Aj:=[.int .i64 x.W,.int .i64 x.H,.int .i64 x.Gens,.int .i64 x.DX,.int .i64 x.DY,.sl 1 (List.map (rI .i64) x.Syms)]
theorem Bu.row_eq (x:Bu):x.row=[.int .i64 x.W,.int .i64 x.H,.int .i64 x.Gens,.int .i64 x.DX,.int .i64 x.DY,.sl 1 (List.map (rI .i64) x.Syms)]:=rfl
structure Bv where
 Vars:Int
 Clauses:A1
 deriving DecidableEq,Inhabited
def Bv.row (x:Bv):Aj:=[.int .i64 x.Vars,.sl 1 (List.map (rS 1 (rI .i64)) x.Clauses)]
theorem Bv.row_eq (x:Bv):x.row=[.int .i64 x.Vars,.sl 1 (List.map (rS 1 (rI .i64)) x.Clauses)]:=rfl
structure Box where
 X:Int
 Y:Int
 W:Int
 H:Int
 deriving DecidableEq,Inhabited
def Box.row (x:Box):Aj:=[.int .i64 x.X,.int .i64 x.Y,.int .i64 x.W,.int .i64 x.H]
theorem Box.row_eq (x:Box):x.row=[.int .i64 x.X,.int .i64 x.Y,.int .i64 x.W,.int .i64 x.H]:=rfl
def Box.key (x:Box):Key:=.ints [x.X,x.Y,x.W,x.H]
def Box.ints (x:Box):A0:=[x.X,x.Y,x.W,x.H]
instance:KeyF Box.key:=⟨λa b h=>by unfold Box.key at h;cases a;cases b;injection h with h;simp only[List.cons.injEq,and_true] at h;simp only[Box.mk.injEq];exact h⟩
structure Bw where
 constant:Int
 vars:A0
 deriving DecidableEq,Inhabited
def Bw.row (x:Bw):Aj:=[.int .i64 x.constant,pnil 1 (List.map (rI .i64) x.vars)]
theorem Bw.row_eq (x:Bw):x.row=[.int .i64 x.constant,pnil 1 (List.map (rI .i64) x.vars)]:=rfl
structure Bz where
 box:Box
 values:List Bw
 deriving DecidableEq,Inhabited
def Bz.row (x:Bz):Aj:=[.int .i64 x.box.X,.int .i64 x.box.Y,.int .i64 x.box.W,.int .i64 x.box.H,.sl 2 (List.map Bw.row x.values)]
theorem Bz.row_eq (x:Bz):x.row=[.int .i64 x.box.X,.int .i64 x.box.Y,.int .i64 x.box.W,.int .i64 x.box.H,.sl 2 (List.map Bw.row x.values)]:=rfl
structure Ba where
 State:Int
 Vars:A0
 deriving DecidableEq,Inhabited
def Ba.row (x:Ba):Aj:=[.int .i64 x.State,.sl 1 (List.map (rI .i64) x.Vars)]
theorem Ba.row_eq (x:Ba):x.row=[.int .i64 x.State,.sl 1 (List.map (rI .i64) x.Vars)]:=rfl
structure Bb where
 variable_:Int
 trail:Int
 turned:Bool
 deriving DecidableEq,Inhabited
abbrev Ax:=List Node
abbrev Ay:=List (A4×Tree)
abbrev Az:=List Point
abbrev AA:=List Bb
abbrev AB:=List Bw
abbrev AC:=List Ba
abbrev AD:=List Grid
abbrev AE:=Int×Int×Int×Int×AB×Bool×Int×Ay×A1
abbrev AF:=Int->A0->Ax->Ax->Option (Int×A0×Ax)
abbrev AG:=Ax->A0->Int->A0->Ax->Option (A0×Ax)
def Bb.row (x:Bb):Aj:=[.int .i64 x.variable_,.int .i64 x.trail,.bool x.turned]
theorem Bb.row_eq (x:Bb):x.row=[.int .i64 x.variable_,.int .i64 x.trail,.bool x.turned]:=rfl
attribute [simp] Point.row_eq Node.row_eq Tree.row_eq Grid.row_eq Bu.row_eq Bv.row_eq Box.row_eq Bw.row_eq Bz.row_eq Ba.row_eq Bb.row_eq
end Go.Proofs.YtpeabgakdpojlaaGreatDoor
namespace Go.Proofs.YtpeabgakdpojlaaGreatDoor
open Go.AM Go.Proofs
def cmpI (a b:Int):Int:=if a<b then -1 else if a>b then 1 else 0
def js:A0->A0->Int|[],[]=>0|[],_::_=>-1|_::_,[]=>1|x::a,y::b=>if cmpI x y≠0 then cmpI x y else js a b
def fK (a b:Grid):Int:=js a.Cells b.Cells
def fC (a:Grid):Bool:=decide (a.Cells.length<1000000)
def mI (t:Tree) (_x:Bu) (stt:Int):Option (Lp (Int) (Bool ⊕ Unit)):=match stt with|a1=>(bif (ltB a1 (br t.Nodes))then (idx t.Nodes a1).bind λx1=>(bif (gtB (br x1.Next) 20)then some (.out (.inl false)) else some (.next (bE .i64 a1 1))) else some (.out (.inr ())))
def oK (t:Tree) (x:Bu):Ah :=((bif (gtB (br t.Nodes) 150)then some true else (bif (gtB (br t.Hood) 9)then some true else (bif (gtB (br x.Syms) 20)then some true else (bif (gtB x.Gens 3)then some (leB x.Gens 6) else some false))))).bind λa=>(bif a then some false else (bv (mI t x) bK 0).bind λo=>match o with
   |.inl r=>some r|.inr _u=>((bif (ltB x.W 1)then some true else (bif (ltB x.H 1)then some true else (bif (gtB x.W 16)then some true else (bif (gtB x.H 16)then some true else (bif (leB (ce .i64 x.W x.H) 9)then some true else some (gtB (ce .i64 x.W x.H) 16))))))).bind λa1=>some a1)
def nL (a b:Point):Ah :=((bif (ltB a.Y b.Y)then some true else (bif (eqB a.Y b.Y)then some (ltB a.X b.X) else some false))).bind λa1=>some a1
def mB (l:Az) (stt:Int):Option (Lp (Int) (Bool ⊕ Unit)):=match stt with|i=>(bif (ltB i (br l))then (idx l i).bind λx=>((bif (ltB x.X (-2))then some true else (bif (gtB x.X 2)then some true else (bif (ltB x.Y (-2))then some true else (bif (gtB x.Y 2)then some true else (bif (gtB i 0)then (idx l (cm .i64 i 1)).bind λx1=>(nL x1 x).bind λy=>some (eX y) else some false)))))).bind λa1=>(bif a1 then some (.out (.inl false)) else some (.next (bE .i64 i 1))) else some (.out (.inr ())))
def nf (l:Az):Ah :=((bif (ltB (br l) 1)then some true else some (gtB (br l) 25))).bind λa=>(bif a then some false else (bv (mB l) bK 0).bind λo=>match o with
   |.inl r=>some r|.inr _u=>some true)
def lh (t:Tree) (i:Int) (x:Node) (stt:Int):Option (Lp (Int) (Bool ⊕ Unit)):=match stt with|s=>(bif (ltB s t.States)then (idx x.Next s).bind λx1=>(bif (ltB x1 0)then some (.out (.inl false)) else ((bif (eqB x.Level 1)then some (geB x1 t.States) else some false)).bind λa2=>(bif a2 then some (.out (.inl false)) else ((bif (gtB x.Level 1)then (bif (geB x1 i)then some true else (idx t.Nodes x1).bind λx2=>some (neB x2.Level (cm .i64 x.Level 1))) else some false)).bind λa3=>(bif a3 then some (.out (.inl false)) else some (.next (bE .i64 s 1))))) else some (.out (.inr ())))
def l9 (t:Tree) (stt:Int):Option (Lp (Int) (Bool ⊕ Unit)):=match stt with
 |i=>(bif (ltB i (br t.Nodes))then (idx t.Nodes i).bind λx=>((bif (ltB x.Level 1)then some true else (bif (gtB x.Level (br t.Hood))then some true else some (neB (br x.Next) t.States)))).bind λa1=>(bif a1 then some (.out (.inl false)) else (bv (lh t i x) bK 0).bind λo=>match o with
     |.inl r=>some (.out (.inl r))|.inr _u=>some (.next (bE .i64 i 1))) else some (.out (.inr ())))
def lI (t:Tree):Ah :=((bif (ltB t.States 2)then some true else (bif (gtB t.States 8)then some true else (nf t.Hood).bind λy=>(bif (eX y)then some true else (bif (ltB (br t.Nodes) 1)then some true else some (gtB (br t.Nodes) 4096)))))).bind λa=>(bif a then some false else (bv (l9 t) bK 0).bind λo=>match o with
   |.inl r=>some r|.inr _u=>(idx t.Nodes (cm .i64 (br t.Nodes) 1)).bind λx=>some (eqB x.Level (br t.Hood)))
def tY (w hv edge:Int):Ah :=((bif (geB w 1)then (bif (leB w 256)then (bif (geB hv 1)then (bif (leB hv 256)then (bif (leB (ce .i64 w hv) 4096)then (bif (geB edge 0)then some (leB edge 2) else some false) else some false) else some false) else some false) else some false) else some false)).bind λa=>some a
def mt (gv:Grid) (stt:Int):Option (Lp (Int) (Bool ⊕ Unit)):=match stt with|i=>(bif (ltB i (br gv.Cells))then ((idx gv.Cells i).bind λx=>(bif (ltB x 0)then some true else some (geB x 8))).bind λa1=>(bif a1 then some (.out (.inl false)) else some (.next (bE .i64 i 1))) else some (.out (.inr ())))
def nj (gv:Grid):Ah :=((tY gv.W gv.H gv.Edge).bind λy=>(bif (eX y)then some true else some (neB (br gv.Cells) (ce .i64 gv.W gv.H)))).bind λa=>(bif a then some false else (bv (mt gv) bK 0).bind λo=>match o with
   |.inl r=>some r|.inr _u=>some true)
def sO (n:Int):As :=some (jx n (cD .i64 n))
def lS (l:Az) (stt:Int×Int):Option (Lp (Int×Int) (Int)):=match stt with|(n,i)=>(bif (ltB i (br l))then (idx l i).bind λx=>(sO x.X).bind λy1=>(sO x.Y).bind λy2=>some (.next ((jx (jx n y1) y2),(bE .i64 i 1))) else some (.out n))
def du (l:Az):As :=(nf l).bind λy=>(bif (eX y)then some 0 else (bv (lS l) bK (0,0)).bind λn=>some n)
def nc (t:Tree) (gv:Grid) (y:Int) (stt:Int×Int):Option (Lp (Int×Int) (Bool ⊕ Unit)):=match stt with|(n,i)=>((bif (ltB i (ce .i64 (bE .i64 gv.W (ce .i64 2 y)) (bE .i64 gv.H (ce .i64 2 y))))then some (leB (ce .i64 (bE .i64 gv.W (ce .i64 2 y)) (bE .i64 gv.H (ce .i64 2 y))) 16) else some false)).bind λa2=>(bif a2 then (bif (gtB (ce .i64 n t.States) 65536)then some (.out (.inl false)) else some (.next ((ce .i64 n t.States),(bE .i64 i 1)))) else some (.out (.inr ())))
def sD (t:Tree) (gv:Grid):Ah :=((oK t (⟨0,0,0,0,0,[]⟩:Bu)).bind λy=>(bif (eX y)then some true else some (gtB (br gv.Cells) 5000))).bind λa=>(bif a then some false else ((lI t).bind λy=>(bif (eX y)then some true else (nj gv).bind λy1=>some (eX y1))).bind λa1=>(bif a1 then some true else (du t.Hood).bind λy=>(bv (nc t gv y) bK (1,0)).bind λo=>match o with
    |.inl r=>some r|.inr _u=>some true))
def m_L48_shift:Option (Tree) :=some (⟨2,[(⟨(-1),0⟩:Point)],[(⟨1,[0,1]⟩:Node)]⟩:Tree)
def ky (x:Int):Ah :=some (neB x x)
def fI (x y:Int):As :=(ky x).bind λy1=>(ky y).bind λy2=>(bif y1 then (bif y2 then some 0 else some (-1)) else (bif y2 then some 1 else (bif (ltB x y)then some (-1) else (bif (gtB x y)then some 1 else some 0))))
def ka (vals:A0) (stt:Int):Option (Lp (Int) (Int ⊕ Unit)):=match stt with|a=>(bif (ltB a (br vals))then (idx vals a).bind λx=>(bif (neB x 0)then some (.out (.inl x)) else some (.next (bE .i64 a 1))) else some (.out (.inr ())))
def nq (vals:A0):As :=(bv (ka vals) bK 0).bind λo=>match o with|.inl r=>some r|.inr _u=>some 0
def l8 (a b:Point):As :=(fI a.Y b.Y).bind λy=>(fI a.X b.X).bind λy1=>(nq [y,y1]).bind λy2=>some y2
def lE (l:Az) (stt:Int):Option (Lp (Int) (Bool ⊕ Unit)):=match stt with|a1=>(bif (ltB a1 (br l))then (idx l a1).bind λx=>((bif (ltB x.X (-2))then some true else (bif (gtB x.X 2)then some true else (bif (ltB x.Y (-2))then some true else (bif (gtB x.Y 2)then some true else (bif (gtB a1 0)then (idx l (cm .i64 a1 1)).bind λx1=>(l8 x1 x).bind λy=>some (geB y 0) else some false)))))).bind λa2=>(bif a2 then some (.out (.inl false)) else some (.next (bE .i64 a1 1))) else some (.out (.inr ())))
def lZ (l:Az):Ah :=((bif (ltB (br l) 1)then some true else some (gtB (br l) 25))).bind λa=>(bif a then some false else (bv (lE l) bK 0).bind λo=>match o with
   |.inl r=>some r|.inr _u=>some true)
def k8 (t:Tree) (a1:Int) (x:Node) (stt:Int):Option (Lp (Int) (Bool ⊕ Unit)):=match stt with|a3=>(bif (ltB a3 (br x.Next))then (idx x.Next a3).bind λx1=>((bif (ltB x1 0)then some true else (bif (eqB x.Level 1)then (bif (geB x1 t.States)then some true else (bif (gtB x.Level 1)then (bif (geB x1 a1)then some true else (idx t.Nodes x1).bind λx2=>some (neB x2.Level (cm .i64 x.Level 1))) else some false)) else (bif (gtB x.Level 1)then (bif (geB x1 a1)then some true else (idx t.Nodes x1).bind λx2=>some (neB x2.Level (cm .i64 x.Level 1))) else some false)))).bind λa4=>(bif a4 then some (.out (.inl false)) else some (.next (bE .i64 a3 1))) else some (.out (.inr ())))
def kc (t:Tree) (stt:Int):Option (Lp (Int) (Bool ⊕ Unit)):=match stt with
 |a1=>(bif (ltB a1 (br t.Nodes))then (idx t.Nodes a1).bind λx=>((bif (ltB x.Level 1)then some true else (bif (gtB x.Level (br t.Hood))then some true else some (neB (br x.Next) t.States)))).bind λa2=>(bif a2 then some (.out (.inl false)) else (bv (k8 t a1 x) bK 0).bind λo=>match o with
     |.inl r=>some (.out (.inl r))|.inr _u=>some (.next (bE .i64 a1 1))) else some (.out (.inr ())))
def gZ (t:Tree):Ah :=((bif (ltB t.States 2)then some true else (bif (gtB t.States 8)then some true else (lZ t.Hood).bind λy=>(bif (eX y)then some true else (bif (ltB (br t.Nodes) 1)then some true else (bif (gtB (br t.Nodes) 4096)then some true else (idx t.Nodes (cm .i64 (br t.Nodes) 1)).bind λx=>some (neB x.Level (br t.Hood)))))))).bind λa=>(bif a then some false else (bv (kc t) bK 0).bind λo=>match o with
   |.inl r=>some r|.inr _u=>some true)
def pE (w hv edge:Int):Ah :=((bif (geB w 1)then (bif (leB w 256)then (bif (geB hv 1)then (bif (leB hv 256)then (bif (leB (ce .i64 w hv) 4096)then (bif (geB edge 0)then some (leB edge 2) else some false) else some false) else some false) else some false) else some false) else some false)).bind λa=>some a
def nK (s:Int):Ah :=((bif (ltB s 0)then some true else some (geB s 8))).bind λa=>some a
def cq (s:A0) (stt:Int):Option (Lp (Int) (Int ⊕ Unit)):=match stt with|a=>(bif (ltB a (br s))then (idx s a).bind λx=>(nK x).bind λy=>(bif y then some (.out (.inl a)) else some (.next (bE .i64 a 1))) else some (.out (.inr ())))
def d9 (s:A0):As :=(bv (cq s) bK 0).bind λo=>match o with|.inl r=>some r|.inr _u=>some (-1)
def cF (s:A0):Ah :=(d9 s).bind λy=>some (geB y 0)
def lW (gv:Grid):Ah :=((pE gv.W gv.H gv.Edge).bind λy=>(bif y then (bif (eqB (br gv.Cells) (ce .i64 gv.W gv.H))then (cF gv.Cells).bind λy1=>some (eX y1) else some false) else some false)).bind λa=>some a
def iE (s:Int) (a:Tree):Ah :=some (geB s a.States)
def bL (s:A0) (cv:Tree) (stt:Int):Option (Lp (Int) (Int ⊕ Unit)):=match stt with|a=>(bif (ltB a (br s))then (idx s a).bind λx=>(iE x cv).bind λy=>(bif y then some (.out (.inl a)) else some (.next (bE .i64 a 1))) else some (.out (.inr ())))
def cC (s:A0) (cv:Tree):As :=(bv (bL s cv) bK 0).bind λo=>match o with|.inl r=>some r|.inr _u=>some (-1)
def bU (s:A0) (cv:Tree):Ah :=(cC s cv).bind λy=>some (geB y 0)
def ff (l:Az) (stt:Int×Int):Option (Lp (Int×Int) (Int)):=match stt with|(r_,a)=>(bif (ltB a (br l))then (idx l a).bind λx=>some (.next ((jx (jx (jx (jx r_ x.X) (cD .i64 x.X)) x.Y) (cD .i64 x.Y)),(bE .i64 a 1))) else some (.out r_))
def d8 (l:Az):As :=((lZ l).bind λy=>(bif y then (bv (ff l) bK (0,0)).bind λr_=>some r_ else some 0)).bind λr_=>some r_
def cn (l:A0):Option A0:=di 8 [] l
def lA (_x:Int) (next:A0):Option A0 :=some next
def dq (l:A0) (n base:Int):Option A0:=appUM l n base
def eO (i base:Int):Option A0 :=((bif (ltB i 0)then (di 1 [] [45]).bind λ_l=>some ((cD .u64 (pt .u64 i)),([]++[45])) else some ((pt .u64 i),[]))).bind λ(u,dst)=>(dq dst u base).bind λy=>some y
def f5 (i base:Int):Option A0 :=(eO i base).bind λy=>some y
def eJ (dst:A0) (i base:Int):Option A0 :=((bif (ltB i 0)then (di 1 dst [45]).bind λ_l=>some ((cD .u64 (pt .u64 i)),(dst++[45])) else some ((pt .u64 i),dst))).bind λ(u,dst1)=>(dq dst1 u base).bind λy=>some y
def e9 (dst:A0) (i base:Int):Option A0 :=(eJ dst i base).bind λy=>some y
def fS (_aA:Ax) (_au:Ag) (_level:Int) (next:A0) (stt:Int×A0):Option (Lp Av (A0)):=match stt with|(a,keyv)=>(bif (ltB a (br next))then (idx next a).bind λx=>(di 1 keyv [32]).bind λ_l=>(e9 (keyv++[32]) x 10).bind λy1=>some (.next ((bE .i64 a 1),y1)) else some (.out keyv))
def ek (aA:Ax) (au:Ag) (level:Int) (next:A0):Option (Int×Ag×Ax) :=(f5 level 10).bind λy=>(bv (fS aA au level next) bK (0,y)).bind λkeyv=>(kckS (ofBytes keyv)).bind λ_u=>(bif (dc au (ofBytes keyv))then some ((eB au (ofBytes keyv) 0),au,aA) else (di 32 aA [(⟨level,next⟩:Node)]).bind λ_l=>some ((cm .i64 ((br aA)+1) 1),(fN au (ofBytes keyv) (cm .i64 ((br aA)+1) 1)),(aA++[(⟨level,next⟩:Node)])))
def cQ (l:Az):Option Az:=di 16 [] l
def cu (rcv:AF) (_k:Int) (a1:Ax) (x1:Node) (y:A0) (stt:Int×A0×Ax×A0):Option (Lp (Int×A0×Ax×A0) ((A0×Ax×A0))):=match stt with|(a2,l,l2,l1)=>(bif (ltB a2 (br y))then ((idx l a2).bind λx2=>(bif (gtB x1.Level 1)then (rcv x2 l1 a1 l2).bind λy1=>some ((l.set a2.toNat y1.1),y1.2.1,y1.2.2) else some (l,l1,l2))).bind λ(l3,l4,l5)=>some (.next ((bE .i64 a2 1),l3,l5,l4)) else some (.out (l,l2,l1)))
def cB (rcv:AF) (k:Int) (a:A0) (a1 cv:Ax):Option (Int×A0×Ax) :=(idx a k).bind λx=>(bif (gtB x 0)then some ((cm .i64 x 1),a,cv) else (idx a1 k).bind λx1=>(cn x1.Next).bind λy=>(bv (cu rcv k a1 x1 y) bK (0,y,cv,a)).bind λ(l,l1,l2)=>(di 32 l1 [(⟨x1.Level,l⟩:Node)]).bind λ_l3=>(idx l2 k).bind λ_x2=>some ((cm .i64 ((br l1)+1) 1),(l2.set k.toNat ((br l1)+1)),(l1++[(⟨x1.Level,l⟩:Node)])))
def iF (k:Int) (a:A0) (a1 cv:Ax):Option (Int×A0×Ax):=ry cB (λ_ _ _ _=>none) recF k a a1 cv
def ik (nodes:Ax) (root:Int):Option Ax :=(mkL 8 (br nodes) (br nodes) 0).bind λ_l=>(iF root (List.replicate (br nodes).toNat 0) nodes []).bind λy=>some y.2.2
def bV (_t:Tree) (_a:Int) (_mp:Ag) (_l:Ax) (to_:A0) (x:Node) (y:A0) (stt:Int×A0):Option (Lp Av (A0)):=match stt with|(a1,next)=>(bif (ltB a1 (br y))then ((idx next a1).bind λx1=>(bif (gtB x.Level 1)then (idx to_ x1).bind λx2=>some (next.set a1.toNat x2) else some next)).bind λaS=>some (.next ((bE .i64 a1 1),aS)) else some (.out next))
def cw (t:Tree) (stt:Int×Ag×Ax×A0):Option (Lp (Int×Ag×Ax×A0) ((Ag×Ax×A0))):=match stt with|(a,mp,l,to_)=>(bif (ltB a (br t.Nodes))then (idx t.Nodes a).bind λx=>(cn x.Next).bind λy=>(bv (bV t a mp l to_ x y) bK (0,y)).bind λnext=>(lA x.Level next).bind λy1=>(ek l mp x.Level y1).bind λy2=>(di 8 to_ [y2.1]).bind λ_l1=>some (.next ((bE .i64 a 1),y2.2.1,y2.2.2,(to_++[y2.1]))) else some (.out (mp,l,to_)))
def df (t:Tree):Option (Tree) :=(bv (cw t) bK (0,[],[],[])).bind λ(_mp,l,to_)=>(cQ t.Hood).bind λy=>(idx to_ (cm .i64 (br to_) 1)).bind λx=>(ik l x).bind λy1=>some (⟨t.States,y,y1⟩:Tree)
def iX (t:Tree):Option (Tree) :=(gZ t).bind λy=>(bif (eX y)then some (⟨0,[],[]⟩:Tree) else (df t).bind λy1=>some y1)
def kg (states:Int):As :=(bif (eqB states 2)then some 1 else ((bif (eqB states 3)then some (eqB states 3) else some (eqB states 4))).bind λa=>(bif a then some 2 else ((bif (gtB states 4)then some (leB states 8) else some false)).bind λa1=>(bif a1 then some 3 else some 0)))
def lT (t:Tree):Option (Int×Az×Ax×Int) :=(iX t).bind λy=>(kg t.States).bind λy1=>some (y.States,y.Hood,y.Nodes,y1)
def dw (_ag:A1) (_aa:Int) (_ae:Az) (_ab:Ax) (aq:Int) (_ak:Ay) (stt:Int×A0×Int):Option (Lp (Int×A0×Int) ((A0×Int))):=match stt with|(a,l,aj)=>(bif (ltB a aq)then (di 8 l [(bE .i64 aj 1)]).bind λ_l1=>some (.next ((bE .i64 a 1),(l++[(bE .i64 aj 1)]),(bE .i64 aj 1))) else some (.out (l,aj)))
def dY (ah:Int) (ag:A1) (aa:Int) (ae:Az) (ab:Ax) (aq:Int) (ak:Ay):Option (A0×Int) :=(bv (dw ag aa ae ab aq ak) bK (0,[],ah)).bind λ(l,aj)=>some (l,aj)
def gk (cv:Int) (y:A0) (stt:Int×A0):Option (Lp Av (A0)):=match stt with|(a,l)=>(bif (ltB a (br y))then ((ishr .i64 cv a).bind λn=>(bif (eqB (iand .i64 n 1) 1)then (idx l a).bind λx=>some (l.set a.toNat (cD .i64 x)) else some l)).bind λl1=>some (.next ((bE .i64 a 1),l1)) else some (.out l))
def ir (vars:A0) (cv:Int):Option A0 :=(cn vars).bind λy=>(bv (gk cv y) bK (0,y)).bind λl=>some l
def dP (_ah:Int) (ag:A1) (_aa:Int) (_ae:Az) (_ab:Ax) (_aq:Int) (_ak:Ay) (l:A0):Option (Unit) :=(di 24 ag [l]).bind λ_l1=>some ()
def dK (ag:A1) (aa:Int) (ae:Az) (ab:Ax) (aq:Int) (ak:Ay) (box:Box) (stt:Int×AB×Int):Option (Lp (Int×AB×Int) ((AB×Int))):=match stt with|(a,l,aj)=>(bif (ltB a (ce .i64 box.W box.H))then (dY aj ag aa ae ab aq ak).bind λy=>(neE y.1).bind λ_u=>(di 32 l [(⟨0,y.1⟩:Bw)]).bind λ_l1=>some (.next ((bE .i64 a 1),(l++[(⟨0,y.1⟩:Bw)]),y.2)) else some (.out (l,aj)))
def da (aa:Int) (ae:Az) (ab:Ax) (aq:Int) (ak:Ay) (_box:Box) (_l:AB) (aj _a:Int) (x:Bw) (stt:Int×A1):Option (Lp (Int×A1) (A1)):=match stt with|(cv,l2)=>(ishl .i64 1 aq).bind λn=>(bif (ltB cv n)then (neE x.vars).bind λ_u=>(ir x.vars cv).bind λy=>(dP aj l2 aa ae ab aq ak y).bind λ_y1=>some (.next ((bE .i64 cv 1),(l2++[y]))) else some (.out l2))
def dN (aa:Int) (ae:Az) (ab:Ax) (aq:Int) (ak:Ay) (box:Box) (l:AB) (aj:Int) (stt:Int×A1):Option (Lp (Int×A1) (A1)):=match stt with|(a,l1)=>(bif (ltB a (br l))then (idx l a).bind λx=>(bv (da aa ae ab aq ak box l aj a x) bK (aa,l1)).bind λl2=>some (.next ((bE .i64 a 1),l2)) else some (.out l1))
def fq (ah:Int) (ag:A1) (aa:Int) (ae:Az) (ab:Ax) (aq:Int) (ak:Ay) (box:Box):Option (AB×A1×Int) :=(bv (dK ag aa ae ab aq ak box) bK (0,[],ah)).bind λ(l,aj)=>(bv (dN aa ae ab aq ak box l aj) bK (0,ag)).bind λl1=>some (l,l1,aj)
def jc (f:Bz) (x y:Int):Option (Bw) :=((bif (ltB (cm .i64 x f.box.X) 0)then some true else (bif (geB (cm .i64 x f.box.X) f.box.W)then some true else (bif (ltB (cm .i64 y f.box.Y) 0)then some true else some (geB (cm .i64 y f.box.Y) f.box.H))))).bind λa=>(bif a then some (⟨0,[]⟩:Bw) else (idx f.values (bE .i64 (ce .i64 (cm .i64 y f.box.Y) f.box.W) (cm .i64 x f.box.X))).bind λx1=>some x1)
def jj (next:A0) (_aU:Int) (_b9:Az) (_aZ:Ax) (_a a1:Int) (stt:Int×A0):Option (Lp Av (A0)):=match stt with|(a2,aS)=>(bif (ltB a2 (br next))then ((bif (neB a2 a1)then (idx aS a1).bind λx=>(idx aS a2).bind λ_x1=>some (aS.set a2.toNat x) else some aS)).bind λnext2=>some (.next ((bE .i64 a2 1),next2)) else some (.out aS))
def kq (level:Int) (next:A0) (aU:Int) (b9:Az) (aZ:Ax) (a a1:Int):Option A0 :=((bif (eqB level (cm .i64 (br b9) a))then (bv (jj next aU b9 aZ a a1) bK (0,next)).bind λaS=>some aS else some next)).bind λaS=>some aS
def gU (_aA:Ax) (_au:Ag) (_level:Int) (next:A0) (stt:Int×A0):Option (Lp Av (A0)):=match stt with|(a,keyv)=>(bif (ltB a (br next))then (idx next a).bind λx=>(di 1 keyv [32]).bind λ_l=>(e9 (keyv++[32]) x 10).bind λy1=>some (.next ((bE .i64 a 1),y1)) else some (.out keyv))
def iM (aA:Ax) (au:Ag) (level:Int) (next:A0):Option (Int×Ag×Ax) :=(f5 level 10).bind λy=>(bv (gU aA au level next) bK (0,y)).bind λkeyv=>(kckS (ofBytes keyv)).bind λ_u=>(bif (dc au (ofBytes keyv))then some ((eB au (ofBytes keyv) 0),au,aA) else (di 32 aA [(⟨level,next⟩:Node)]).bind λ_l=>some ((cm .i64 ((br aA)+1) 1),(fN au (ofBytes keyv) (cm .i64 ((br aA)+1) 1)),(aA++[(⟨level,next⟩:Node)])))
def eM (_t:Tree) (_aG:Int) (_aV:Az) (_aK:Ax) (_cv _cv1 _a:Int) (_mp:Ag) (_l:Ax) (to_:A0) (x:Node) (y:A0) (stt:Int×A0):Option (Lp Av (A0)):=match stt with|(a1,next)=>(bif (ltB a1 (br y))then ((idx next a1).bind λx1=>(bif (gtB x.Level 1)then (idx to_ x1).bind λx2=>some (next.set a1.toNat x2) else some next)).bind λaS=>some (.next ((bE .i64 a1 1),aS)) else some (.out next))
def eT (t:Tree) (aG:Int) (aV:Az) (aK:Ax) (cv cv1:Int) (stt:Int×Ag×Ax×A0):Option (Lp (Int×Ag×Ax×A0) ((Ag×Ax×A0))):=match stt with|(a,mp,l,to_)=>(bif (ltB a (br t.Nodes))then (idx t.Nodes a).bind λx=>(cn x.Next).bind λy=>(bv (eM t aG aV aK cv cv1 a mp l to_ x y) bK (0,y)).bind λnext=>(kq x.Level next aG aV aK cv cv1).bind λy1=>(iM l mp x.Level y1).bind λy2=>(di 8 to_ [y2.1]).bind λ_l1=>some (.next ((bE .i64 a 1),y2.2.1,y2.2.2,(to_++[y2.1]))) else some (.out (mp,l,to_)))
def f9 (t:Tree) (aG:Int) (aV:Az) (aK:Ax) (cv cv1:Int):Option (Az×Ax) :=(bv (eT t aG aV aK cv cv1) bK (0,[],[],[])).bind λ(_mp,l,to_)=>(cQ t.Hood).bind λy=>(idx to_ (cm .i64 (br to_) 1)).bind λx=>(ik l x).bind λy1=>some (y,y1)
def tH (t:Tree) (k s:Int):Option (Tree×Int) :=(gZ t).bind λy=>(bif (eX y)then some ((⟨0,[],[]⟩:Tree),11) else ((bif (ltB k 0)then some true else some (geB k (br t.Hood)))).bind λa=>(bif a then some ((⟨0,[],[]⟩:Tree),2) else ((bif (ltB s 0)then some true else some (geB s t.States))).bind λa1=>(bif a1 then some ((⟨0,[],[]⟩:Tree),10) else (f9 t t.States t.Hood t.Nodes k s).bind λy1=>some ((⟨t.States,y1.1,y1.2⟩:Tree),0))))
def gC (_ah:Int) (_ag:A1) (_aa:Int) (_ae:Az) (_ab:Ax) (_aq:Int) (_ak:Ay) (in_:AB) (stt:Int×A0):Option (Lp Av (A0)):=match stt with|(a,keyv)=>(bif (ltB a (br in_))then (idx in_ a).bind λx=>((bif (eX (isE x.vars))then some 255 else some (pt .u8 x.constant))).bind λk=>(di 1 keyv [k]).bind λ_l=>some (.next ((bE .i64 a 1),(keyv++[k]))) else some (.out keyv))
def gG (_ah:Int) (_ag:A1) (_aa:Int) (_ae:Az) (_ab:Ax) (_aq:Int) (_ak:Ay) (in_:AB) (_keyv:A0) (_u:Unit) (stt:Int×Int×Az×Ax):Option (Lp (Int×Int×Az×Ax) ((Int×Az×Ax))):=match stt with|(a,aF,aT,aI)=>(bif (ltB a (br in_))then ((idx in_ a).bind λx=>(bif (isE x.vars)then (tH (⟨aF,aT,aI⟩:Tree) a x.constant).bind λy=>some (y.1.States,y.1.Hood,y.1.Nodes) else some (aF,aT,aI))).bind λ(bm,tHood1,tNodes1)=>some (.next ((bE .i64 a 1),bm,tHood1,tNodes1)) else some (.out (aF,aT,aI)))
def fM (ah:Int) (ag:A1) (aa:Int) (ae:Az) (ab:Ax) (aq:Int) (ak:Ay) (in_:AB):Option (Int×Az×Ax×Ay) :=(bv (gC ah ag aa ae ab aq ak in_) bK (0,[])).bind λkeyv=>(kckS (ofBytes keyv)).bind λu=>(bif (dc ak (ofBytes keyv))then (gm ak (ofBytes keyv)).bind λv=>some (v.States,v.Hood,v.Nodes,ak) else (bv (gG ah ag aa ae ab aq ak in_ keyv u) bK (0,aa,ae,ab)).bind λ(aF,aT,aI)=>some (aF,aT,aI,(fN ak (ofBytes keyv) (⟨aF,aT,aI⟩:Tree))))
def gA (n:Int) (a:Node):Ah :=(idx a.Next 0).bind λx=>some (neB n x)
def bY (s:A0) (cv:Node) (stt:Int):Option (Lp (Int) (Int ⊕ Unit)):=match stt with|a=>(bif (ltB a (br s))then (idx s a).bind λx=>(gA x cv).bind λy=>(bif y then some (.out (.inl a)) else some (.next (bE .i64 a 1))) else some (.out (.inr ())))
def cN (s:A0) (cv:Node):As :=(bv (bY s cv) bK 0).bind λo=>match o with|.inl r=>some r|.inr _u=>some (-1)
def cj (s:A0) (cv:Node):Ah :=(cN s cv).bind λy=>some (geB y 0)
def cO (s bl:Int) (aNext:A0) (a:AB):Option Av :=(bif (eqB bl 1)then (idx aNext s).bind λx=>some (x,[]) else (idx aNext s).bind λx=>(idx a x).bind λx1=>some (x1.constant,x1.vars))
def eg (_ah:Int) (ag:A1) (_aa:Int) (_ae:Az) (_ab:Ax) (_aq:Int) (_ak:Ay) (l:A0):Option (Unit) :=(di 24 ag [l]).bind λ_l1=>some ()
def cz (l:A0) (aX:Int) (aQ:A1) (b7:Int) (bc:Az) (b8:Ax) (abits:Int) (bj:Ay) (a:A0):Option A1 :=(cn a).bind λy=>(di 8 y l).bind λ_l1=>(eg aX aQ b7 bc b8 abits bj (y++l)).bind λ_y1=>some (aQ++[(y++l)])
def dR (ah aa:Int) (ae:Az) (ab:Ax) (aq:Int) (ak:Ay) (aM own:A0) (v:Bw) (stt:Int×A1):Option (Lp (Int×A1) (A1)):=match stt with|(a,l)=>(bif (ltB a (br own))then ((idx own a).bind λx=>(bif (eX (isE v.vars))then (neE v.vars).bind λ_u=>(idx v.vars a).bind λx1=>(cz [(cD .i64 x),x1] ah l aa ae ab aq ak aM).bind λy=>(cz [x,(cD .i64 x1)] ah y aa ae ab aq ak aM).bind λy1=>some y1 else (ishr .i64 v.constant a).bind λn=>(bif (eqB (iand .i64 n 1) 1)then (cz [x] ah l aa ae ab aq ak aM).bind λy=>some y else (cz [(cD .i64 x)] ah l aa ae ab aq ak aM).bind λy=>some y))).bind λl1=>some (.next ((bE .i64 a 1),l1)) else some (.out l))
def eC (ah:Int) (ag:A1) (aa:Int) (ae:Az) (ab:Ax) (aq:Int) (ak:Ay) (aM own:A0) (v:Bw):Option A1 :=(bv (dR ah aa ae ab aq ak aM own v) bK (0,ag)).bind λl=>some l
def dj (aa:Int) (ae:Az) (ab:Ax) (aq:Int) (ak:Ay) (_t:Tree) (_in_:AB) (a:Int) (l1:AB) (x:Node) (x1:Bw) (y1:A0×Int) (x2:Bw) (_u:Unit) (stt:Int×A1):Option (Lp (Int×A1) (A1)):=match stt with|(a1,l3)=>(bif (ltB a1 (br x.Next))then (neE x1.vars).bind λ_u1=>(ir x1.vars a1).bind λy2=>(cO a1 x.Level x.Next (l1.set a.toNat (⟨x2.constant,y1.1⟩:Bw))).bind λy3=>(eC y1.2 l3 aa ae ab aq ak y2 y1.1 (⟨y3.1,y3.2⟩:Bw)).bind λy4=>some (.next ((bE .i64 a1 1),y4)) else some (.out l3))
def dm (aa:Int) (ae:Az) (ab:Ax) (aq:Int) (ak:Ay) (t:Tree) (in_:AB) (stt:Int×AB×A1×Int):Option (Lp (Int×AB×A1×Int) ((AB×A1×Int))):=match stt with|(a,l1,l2,aj)=>(bif (ltB a (br t.Nodes))then (idx t.Nodes a).bind λx=>(cj x.Next x).bind λy=>(bif (eX y)then (cO 0 x.Level x.Next l1).bind λy1=>(idx l1 a).bind λ_x1=>some (.next ((bE .i64 a 1),(l1.set a.toNat (⟨y1.1,y1.2⟩:Bw)),l2,aj)) else (idx in_ (cm .i64 (br t.Hood) x.Level)).bind λx1=>(dY aj l2 aa ae ab aq ak).bind λy1=>(idx l1 a).bind λx2=>(neE y1.1).bind λu=>(bv (dj aa ae ab aq ak t in_ a l1 x x1 y1 x2 u) bK (0,l2)).bind λl3=>some (.next ((bE .i64 a 1),(l1.set a.toNat (⟨x2.constant,y1.1⟩:Bw)),l3,y1.2))) else some (.out (l1,l2,aj)))
def eV (ah:Int) (ag:A1) (aa:Int) (ae:Az) (ab:Ax) (aq:Int) (ak:Ay) (t:Tree) (in_:AB):Option (Int×A0×A1×Int) :=(mkL 32 (br t.Nodes) (br t.Nodes) (⟨0,[]⟩:Bw)).bind λ_l=>(bv (dm aa ae ab aq ak t in_) bK (0,(List.replicate (br t.Nodes).toNat (⟨0,[]⟩:Bw)),ag,ah)).bind λ(l1,l2,aj)=>(idx l1 (cm .i64 (br l1) 1)).bind λx=>some (x.constant,x.vars,l2,aj)
def dX (ah:Int) (ag:A1) (_aa:Int) (_ae:Az) (_ab:Ax) (_aq:Int) (_ak:Ay):Ah :=((bif (gtB ah 65536)then some true else some (gtB (br ag) 262144))).bind λa=>some a
def db (_aa:Int) (ae:Az) (_ab:Ax) (_aq:Int) (f:Bz) (_box:Box) (_fixed:Bool) (y x:Int) (_l2:AB) (_l3:A1) (_ax:Int) (_mp1:Ay) (stt:Int×AB):Option (Lp (Int×AB) (AB)):=match stt with|(a,in_)=>(bif (ltB a (br ae))then (idx ae a).bind λx1=>(jc f (bE .i64 x x1.X) (bE .i64 y x1.Y)).bind λy1=>(di 32 in_ [y1]).bind λ_l4=>some (.next ((bE .i64 a 1),(in_++[y1]))) else some (.out in_))
def cX (aa:Int) (ae:Az) (ab:Ax) (aq:Int) (f:Bz) (box:Box) (fixed:Bool) (y:Int) (stt:Int×AB×A1×Int×Ay):Option (Lp (Int×AB×A1×Int×Ay) (AE ⊕ (AB×A1×Int×Ay))):=match stt with|(x,l2,l3,ax,mp1)=>(bif (ltB x (bE .i64 box.X box.W))then (bv (db aa ae ab aq f box fixed y x l2 l3 ax mp1) bK (0,[])).bind λin_=>((bif fixed then (fM ax l3 aa ae ab aq mp1 in_).bind λy1=>some (y1.1,y1.2.1,y1.2.2.1,y1.2.2.2) else some (aa,ae,ab,mp1))).bind λ(aF,aT,aI,mp2)=>(eV ax l3 aa ae ab aq mp2 (⟨aF,aT,aI⟩:Tree) in_).bind λy1=>(di 32 l2 [(⟨y1.1,y1.2.1⟩:Bw)]).bind λ_l4=>(dX y1.2.2.2 y1.2.2.1 aa ae ab aq mp2).bind λy2=>(bif y2 then some (.out (.inl (0,0,0,0,[],false,y1.2.2.2,mp2,y1.2.2.1))) else some (.next ((bE .i64 x 1),(l2++[(⟨y1.1,y1.2.1⟩:Bw)]),y1.2.2.1,y1.2.2.2,mp2))) else some (.out (.inr (l2,l3,ax,mp1))))
def dO (aa:Int) (ae:Az) (ab:Ax) (aq:Int) (f:Bz) (box:Box) (fixed:Bool) (stt:Int×AB×A1×Int×Ay):Option (Lp (Int×AB×A1×Int×Ay) (AE ⊕ (AB×A1×Int×Ay))):=match stt with
 |(y,l,l1,aj,mp)=>(bif (ltB y (bE .i64 box.Y box.H))then (bv (cX aa ae ab aq f box fixed y) bK (box.X,l,l1,aj,mp)).bind λo=>match o with
    |.inl r=>some (.out (.inl r))|.inr (l2,l3,ax,mp1)=>some (.next ((bE .i64 y 1),l2,l3,ax,mp1)) else some (.out (.inr (l,l1,aj,mp))))
def ft (ah:Int) (ag:A1) (aa:Int) (ae:Az) (ab:Ax) (aq:Int) (ak:Ay) (f:Bz) (box:Box) (fixed:Bool):Option AE :=(bv (dO aa ae ab aq f box fixed) bK (box.Y,[],ag,ah,ak)).bind λo=>match o with|.inl r=>some r|.inr (l,l1,aj,mp)=>some (box.X,box.Y,box.W,box.H,l,true,aj,mp,l1)
def f7 (ah aa:Int) (ae:Az) (ab:Ax) (aq:Int) (ak:Ay) (vars:A0) (cv:Int) (stt:Int×A1):Option (Lp (Int×A1) (A1)):=match stt with|(a,l)=>(bif (ltB a (br vars))then (idx vars a).bind λx=>((ishr .i64 cv a).bind λn=>(bif (eqB (iand .i64 n 1) 0)then some (cD .i64 x) else some x)).bind λv=>(dP ah l aa ae ab aq ak [v]).bind λ_y=>some (.next ((bE .i64 a 1),(l++[[v]]))) else some (.out l))
def fG (ah:Int) (ag:A1) (aa:Int) (ae:Az) (ab:Ax) (aq:Int) (ak:Ay) (vars:A0) (cv:Int):Option A1 :=(bv (f7 ah aa ae ab aq ak vars cv) bK (0,ag)).bind λl=>some l
def fA (_ah:Int) (ag:A1) (_aa:Int) (_ae:Az) (_ab:Ax) (_aq:Int) (_ak:Ay):Option (Unit) :=(di 24 ag [[]]).bind λ_l=>some ()
def fo (gv:Grid) (y3:Int) (y4:Int×Az×Ax×Int) (y5:AB×A1×Int) (stt:Int×Ay×Int×A1):Option (Lp (Int×Ay×Int×A1) ((Bv×Int×Int) ⊕ (Ay×Int×A1))):=match stt with|(a,mp,ah,l)=>(bif (ltB a (br gv.Cells))then (idx gv.Cells a).bind λx=>(irem a gv.W).bind λn=>(iquo .i64 a gv.W).bind λn1=>(ft ah l y4.1 y4.2.1 y4.2.2.1 y4.2.2.2 mp (⟨⟨(⟨(cD .i64 y3),(cD .i64 y3),(bE .i64 gv.W (ce .i64 2 y3)),(bE .i64 gv.H (ce .i64 2 y3))⟩:Box).X,(⟨(cD .i64 y3),(cD .i64 y3),(bE .i64 gv.W (ce .i64 2 y3)),(bE .i64 gv.H (ce .i64 2 y3))⟩:Box).Y,(⟨(cD .i64 y3),(cD .i64 y3),(bE .i64 gv.W (ce .i64 2 y3)),(bE .i64 gv.H (ce .i64 2 y3))⟩:Box).W,(⟨(cD .i64 y3),(cD .i64 y3),(bE .i64 gv.W (ce .i64 2 y3)),(bE .i64 gv.H (ce .i64 2 y3))⟩:Box).H⟩,y5.1⟩:Bz) (⟨n,n1,1,1⟩:Box) false).bind λy6=>(bif (eX y6.2.2.2.2.2.1)then some (.out (.inl ((⟨0,[]⟩:Bv),0,6))) else (idx y6.2.2.2.2.1 0).bind λx1=>(bif (eX (isE x1.vars))then (neE x1.vars).bind λ_u=>(fG y6.2.2.2.2.2.2.1 y6.2.2.2.2.2.2.2.2 y4.1 y4.2.1 y4.2.2.1 y4.2.2.2 y6.2.2.2.2.2.2.2.1 x1.vars x).bind λy7=>some (.next ((bE .i64 a 1),y6.2.2.2.2.2.2.2.1,y6.2.2.2.2.2.2.1,y7)) else (bif (neB x1.constant x)then (fA y6.2.2.2.2.2.2.1 y6.2.2.2.2.2.2.2.2 y4.1 y4.2.1 y4.2.2.1 y4.2.2.2 y6.2.2.2.2.2.2.2.1).bind λ_y7=>some (.next ((bE .i64 a 1),y6.2.2.2.2.2.2.2.1,y6.2.2.2.2.2.2.1,(y6.2.2.2.2.2.2.2.2++[[]]))) else some (.next ((bE .i64 a 1),y6.2.2.2.2.2.2.2.1,y6.2.2.2.2.2.2.1,y6.2.2.2.2.2.2.2.2))))) else some (.out (.inr (mp,ah,l))))
def eP (t:Tree) (gv:Grid):Option (Bv×Int×Int) :=(gZ t).bind λy=>(bif (eX y)then some ((⟨0,[]⟩:Bv),0,11) else (lW gv).bind λy1=>(bif (eX y1)then some ((⟨0,[]⟩:Bv),0,2) else (bU gv.Cells t).bind λy2=>(bif y2 then some ((⟨0,[]⟩:Bv),0,10) else (d8 t.Hood).bind λy3=>(bif (gtB (ce .i64 (bE .i64 gv.W (ce .i64 2 y3)) (bE .i64 gv.H (ce .i64 2 y3))) 16)then some ((⟨0,[]⟩:Bv),0,6) else (lT t).bind λy4=>(fq 0 [] y4.1 y4.2.1 y4.2.2.1 y4.2.2.2 [] (⟨(cD .i64 y3),(cD .i64 y3),(bE .i64 gv.W (ce .i64 2 y3)),(bE .i64 gv.H (ce .i64 2 y3))⟩:Box)).bind λy5=>(bv (fo gv y3 y4 y5) bK (0,[],y5.2.2,y5.2.1)).bind λo=>match o with
      |.inl r=>some r|.inr (mp,ah,l)=>(dX ah l y4.1 y4.2.1 y4.2.2.1 y4.2.2.2 mp).bind λy6=>(bif y6 then some ((⟨0,[]⟩:Bv),0,6) else some ((⟨ah,l⟩:Bv),y5.2.2,0))))))
def mf (_f:Bv) (n bits:Int) (stt:Int×A0):Option (Lp Av (A0)):=match stt with|(a,vars)=>(bif (ltB a (br (List.replicate n.toNat ())))then (iquo .i64 a bits).bind λn1=>(irem a bits).bind λn2=>(idx vars a).bind λ_x=>some (.next ((bE .i64 a 1),(vars.set a.toNat (cm .i64 (cm .i64 (bE .i64 (ce .i64 n1 bits) bits) 1) n2)))) else some (.out vars))
def mh (_f:Bv) (n:Int) (vars:A0) (_a:Int) (_l1:A1) (x:A0) (stt:Int×A0):Option (Lp Av (A0)):=match stt with|(a1,l3)=>(bif (ltB a1 (br x))then (idx x a1).bind λx1=>((bif (leB (jx x1 (cD .i64 x1)) n)then (idx vars (cm .i64 (jx x1 (cD .i64 x1)) 1)).bind λx2=>some (bE .i64 x2 1) else some (jx x1 (cD .i64 x1)))).bind λv=>((bif (ltB x1 0)then some (cD .i64 v) else some v)).bind λv1=>(idx l3 a1).bind λ_x2=>some (.next ((bE .i64 a1 1),(l3.set a1.toNat v1))) else some (.out l3))
def mg (f:Bv) (n:Int) (vars:A0) (stt:Int×A1):Option (Lp (Int×A1) (A1)):=match stt with|(a,l1)=>(bif (ltB a (br f.Clauses))then (idx f.Clauses a).bind λx=>(mkL 8 (br x) (br x) 0).bind λ_l2=>(bv (mh f n vars a l1 x) bK (0,(List.replicate (br x).toNat 0))).bind λl3=>(di 24 l1 [l3]).bind λ_l4=>some (.next ((bE .i64 a 1),(l1++[l3]))) else some (.out l1))
def nA (f:Bv) (n bits:Int):Option (Bv×A0) :=(mkL 8 n n 0).bind λ_l=>(bv (mf f n bits) bK (0,(List.replicate n.toNat 0))).bind λvars=>(bv (mg f n vars) bK (0,[])).bind λl1=>some ((⟨f.Vars,l1⟩:Bv),vars)
def iC (vars:Int) (l:A0) (stt:Int):Option (Lp (Int) (Bool ⊕ Unit)):=match stt with|a=>(bif (ltB a (br l))then (idx l a).bind λx=>((bif (eqB x 0)then some true else (bif (gtB x vars)then some true else some (ltB x (cD .i64 vars))))).bind λa1=>(bif a1 then some (.out (.inl false)) else some (.next (bE .i64 a 1))) else some (.out (.inr ())))
def k5 (vars:Int) (l:A0):Ah :=(bv (iC vars l) bK 0).bind λo=>match o with|.inl r=>some r|.inr _u=>some true
def jf (f:Bv) (stt:Int):Option (Lp (Int) (Bool ⊕ Unit)):=match stt with|a1=>(bif (ltB a1 (br f.Clauses))then (idx f.Clauses a1).bind λx=>(k5 f.Vars x).bind λy=>(bif (eX y)then some (.out (.inl false)) else some (.next (bE .i64 a1 1))) else some (.out (.inr ())))
def iZ (f:Bv):Ah :=((bif (ltB f.Vars 0)then some true else (bif (gtB f.Vars 65536)then some true else some (gtB (br f.Clauses) 262144)))).bind λa=>(bif a then some false else (bv (jf f) bK 0).bind λo=>match o with
   |.inl r=>some r|.inr _u=>some true)
def gz (l:A0):Option A0:=sortIM l
def fL (l:A0):Option (A0×Nat):=cmpIM l
def eZ (ar _aw:A0) (_edone:Int) (_am:AA) (_ebad:Bool) (x:Int):As :=(bif (ltB x 0)then (idx ar (cD .i64 x)).bind λx1=>some (cD .i8 x1) else (idx ar x).bind λx1=>some x1)
def dJ (ar aw:A0) (_edone:Int) (_ebad:Bool) (x:Int):Option A0 :=((bif (gtB x 0)then (idx ar x).bind λ_x1=>some (ar.set x.toNat 1) else (idx ar (cD .i64 x)).bind λ_x1=>some (ar.set (cD .i64 x).toNat (-1)))).bind λl=>(di 8 aw [x]).bind λ_l1=>some l
def e6 (_f:Bv) (_a:Int) (_l1:A0) (_ebad:Bool) (l2:A1) (_l3:A0) (y2:A0×Nat) (_u:Unit) (stt:Int×A2):Option (Lp (Int×A2) (A2)):=match stt with|(a1,mp1)=>(bif (ltB a1 (lenP 0 2))then (idxP (y2.1.take y2.2) 0 2 a1).bind λx1=>(kckL [x1]).bind λ_u1=>(di 8 (eB mp1 x1 []) [(br l2)]).bind λ_l5=>some (.next ((bE .i64 a1 1),(fN (jg mp1 x1) x1 ((eB mp1 x1 [])++[(br l2)])))) else some (.out mp1))
def dZ (f:Bv) (stt:Int×A2×A0×Bool×A1×A0):Option (Lp (Int×A2×A0×Bool×A1×A0) ((A2×A0×Bool×A1×A0))):=match stt with|(a,mp,l1,ebad,l2,l3)=>(bif (ltB a (br f.Clauses))then (idx f.Clauses a).bind λx=>(cn x).bind λy=>(gz y).bind λy1=>(fL y1).bind λy2=>(bif (eqB (br (y2.1.take y2.2)) 0)then some (.next ((bE .i64 a 1),mp,l1,true,l2,l3)) else (bif (eqB (br (y2.1.take y2.2)) 1)then (idx (y2.1.take y2.2) 0).bind λx1=>(eZ l1 l3 0 [] ebad x1).bind λy3=>(bif (eqB y3 (-1))then some (.next ((bE .i64 a 1),mp,l1,true,l2,l3)) else (bif (eqB y3 0)then (dJ l1 l3 0 ebad x1).bind λy4=>some (.next ((bE .i64 a 1),mp,y4,ebad,l2,(l3++[x1]))) else some (.next ((bE .i64 a 1),mp,l1,ebad,l2,l3)))) else (di 24 l2 [(y2.1.take y2.2)]).bind λ_l4=>(qq (y2.1.take y2.2) 0 2).bind λu=>(bv (e6 f a l1 ebad l2 l3 y2 u) bK (0,mp)).bind λmp1=>some (.next ((bE .i64 a 1),mp1,l1,ebad,(l2++[(y2.1.take y2.2)]),l3)))) else some (.out (mp,l1,ebad,l2,l3)))
def gy (f:Bv):Option (A2×A0×Bool×A1×A0) :=(mkL 1 (bE .i64 f.Vars 1) (bE .i64 f.Vars 1) 0).bind λ_l=>(bv (dZ f) bK (0,([]:A2),(List.replicate (bE .i64 f.Vars 1).toNat 0),false,([]:A1),[])).bind λ(mp,l1,ebad,l2,l3)=>some (mp,l1,ebad,l2,l3)
def gY (y:Int) (ba bg:A0) (bi:Int) (aW:AA) (abad:Bool):Ah :=(eZ ba bg bi aW abad y).bind λy1=>some (neB y1 (-1))
def bM (s aJ aP:A0) (aY:Int) (aB:AA) (bf:Bool) (stt:Int):Option (Lp (Int) (Int ⊕ Unit)):=match stt with|a=>(bif (ltB a (br s))then (idx s a).bind λx=>(gY x aJ aP aY aB bf).bind λy=>(bif y then some (.out (.inl a)) else some (.next (bE .i64 a 1))) else some (.out (.inr ())))
def cb (s aJ aP:A0) (aY:Int) (aB:AA) (bf:Bool):As :=(bv (bM s aJ aP aY aB bf) bK 0).bind λo=>match o with|.inl r=>some r|.inr _u=>some (-1)
def cR (ay:A2) (edone:Int) (am:AA) (ebad:Bool) (x:Int) (_u:Unit) (stt:Nat×Int×A0×A0×A1×A2×A0):Option (Lp (Nat×Int×A0×A0×A1×A2×A0) ((Bool×A0×A1×A2×A0) ⊕ (Nat×A0×A0×A1×A2×A0))):=match stt with|(n,a,old,l2,l,mp,l1)=>(bif (ltB a (br (eB ay x [])))then (idx old a).bind λx1=>(idx l x1).bind λx2=>((idx x2 0).bind λx3=>(bif (eqB x3 x)then (idx x2 1).bind λx4=>(idx (x2.set 0 x4) 1).bind λ_x5=>some ((x2.set 0 x4).set 1 x3) else some x2)).bind λcv=>(idx cv 0).bind λx3=>(eZ l1 l2 edone am ebad x3).bind λy=>(bif (eqB y 1)then (lenK old (n+1)).bind λ_u2=>some (.next ((n+1),(bE .i64 a 1),(ic old n [x1]),l2,(l.set x1.toNat cv),mp,l1)) else (qq cv 2 cv.length).bind λ_u2=>(cb (subL cv 2 cv.length) l1 l2 edone am ebad).bind λy1=>(bif (geB y1 0)then (idx cv (bE .i64 y1 2)).bind λx4=>(idx cv 1).bind λx5=>(idx (cv.set 1 x4) (bE .i64 y1 2)).bind λ_x6=>(idx ((cv.set 1 x4).set (bE .i64 y1 2).toNat x5) 1).bind λx7=>(kckL [x7]).bind λ_u3=>(ckB (neB x x7)).bind λ_u4=>(di 8 (eB mp x7 []) [x1]).bind λ_l3=>some (.next (n,(bE .i64 a 1),old,l2,(l.set x1.toNat ((cv.set 1 x4).set (bE .i64 y1 2).toNat x5)),(fN (jg mp x7) x7 ((eB mp x7 [])++[x1])),l1)) else (lenK old (n+1)).bind λ_u3=>(bif (eqB y (-1))then (qq (ic old n [x1]) (bE .i64 a 1) (ic old n [x1]).length).bind λ_u4=>(lenK (ic old n [x1]) ((n+1)+(subL (ic old n [x1]) ((bE .i64 a 1).toNat) ((ic old n [x1]).length)).length)).bind λ_u5=>(kckL [x]).bind λ_u6=>(ckB (dc mp x)).bind λ_u7=>(lenK (ic (ic old n [x1]) (n+1) (subL (ic old n [x1]) ((bE .i64 a 1).toNat) ((ic old n [x1]).length))) ((n+1)+(subL (ic old n [x1]) ((bE .i64 a 1).toNat) ((ic old n [x1]).length)).length)).bind λ_u8=>some (.out (.inl (false,l2,(l.set x1.toNat cv),(fN mp x ((ic (ic old n [x1]) (n+1) (subL (ic old n [x1]) ((bE .i64 a 1).toNat) ((ic old n [x1]).length))).take ((n+1)+(subL (ic old n [x1]) ((bE .i64 a 1).toNat) ((ic old n [x1]).length)).length))),l1))) else (dJ l1 l2 edone ebad x3).bind λy2=>some (.next ((n+1),(bE .i64 a 1),(ic old n [x1]),(l2++[x3]),(l.set x1.toNat cv),mp,y2))))) else some (.out (.inr (n,old,l2,l,mp,l1))))
def eI (aO:A1) (ay:A2) (ar aw:A0) (edone:Int) (am:AA) (ebad:Bool) (x:Int):Option (Bool×A0×A1×A2×A0) :=(kckL [x]).bind λu=>(qq (eB ay x []) 0 0).bind λ_u1=>(bv (cR ay edone am ebad x u) bK (0,0,(eB ay x []),aw,aO,(jg ay x),ar)).bind λo=>match o with|.inl r=>some r|.inr (n,l,l1,l2,mp,l3)=>(ckB (dc mp x)).bind λ_u2=>(lenK l n).bind λ_u3=>some (true,l1,l2,(fN mp x (l.take n)),l3)
def cd (am:AA) (ebad:Bool) (stt:A0×Int×A1×A2×A0):Option (Lp (A0×Int×A1×A2×A0) ((Bool×Int×A1×A2×A0×A0) ⊕ (A0×Int×A1×A2×A0))):=match stt with|(l2,aL,l,mp,l1)=>(bif (ltB aL (br l2))then (idx l2 aL).bind λx=>(eI l mp l1 l2 aL am ebad (cD .i64 x)).bind λy=>(bif (eX y.1)then some (.out (.inl (false,aL,y.2.2.1,y.2.2.2.1,y.2.2.2.2,y.2.1))) else some (.next (y.2.1,(bE .i64 aL 1),y.2.2.1,y.2.2.2.1,y.2.2.2.2))) else some (.out (.inr (l2,aL,l,mp,l1))))
def dz (aO:A1) (ay:A2) (ar aw:A0) (edone:Int) (am:AA) (ebad:Bool):Option (Bool×Int×A1×A2×A0×A0) :=(bv (cd am ebad) bK (aw,edone,aO,ay,ar)).bind λo=>match o with|.inl r=>some r|.inr (l,bdone,l1,mp,l2)=>some (true,bdone,l1,mp,l2,l)
def dD (aw:A0) (_edone:Int) (_am:AA) (_ebad:Bool) (x:Bb) (stt:Int×A0):Option (Lp Av (A0)):=match stt with|(a,l)=>(bif (ltB a (lenP x.trail.toNat aw.length))then (idxP aw x.trail.toNat aw.length a).bind λx1=>(idx l (jx x1 (cD .i64 x1))).bind λ_x2=>some (.next ((bE .i64 a 1),(l.set (jx x1 (cD .i64 x1)).toNat 0))) else some (.out l))
def gb (ar aw:A0) (edone:Int) (am:AA) (ebad:Bool):Option (Int×Int×Bool×A0×A0) :=(idx am (cm .i64 (br am) 1)).bind λx=>(qq am 0 (cm .i64 (br am) 1)).bind λ_u2=>(qq aw x.trail aw.length).bind λ_u3=>(bv (dD aw edone am ebad x) bK (0,ar)).bind λl=>(qq aw 0 x.trail).bind λ_u4=>some (x.variable_,x.trail,x.turned,(aw.take x.trail.toNat),l)
def ew (ar aw:A0) (edone:Int) (am:AA) (ebad:Bool) (x:Int) (turned:Bool):Option A0 :=(di 24 am [(⟨(jx x (cD .i64 x)),(br aw),turned⟩:Bb)]).bind λ_l=>(dJ ar aw edone ebad x).bind λy=>some y
def cW (ebad:Bool) (n:Int) (stt:A0×AA×Int×A0):Option (Lp (A0×AA×Int×A0) ((Bool×Int×A0×A0×AA) ⊕ (A0×AA×Int×A0))):=match stt with|(l1,l2,aL,l)=>(bif (gtB (br l2) 0)then (gb l l1 aL l2 ebad).bind λy=>((bif (eX y.2.2.1)then some (leB y.1 n) else some false)).bind λa=>(bif a then (ew y.2.2.2.2 y.2.2.2.1 y.2.1 (l2.take ((cm .i64 (br l2) 1).toNat)) ebad y.1 true).bind λy1=>some (.out (.inl (true,y.2.1,y1,(y.2.2.2.1++[y.1]),((l2.take ((cm .i64 (br l2) 1).toNat))++[(⟨(jx y.1 (cD .i64 y.1)),(br y.2.2.2.1),true⟩:Bb)])))) else some (.next (y.2.2.2.1,(l2.take ((cm .i64 (br l2) 1).toNat)),y.2.1,y.2.2.2.2))) else some (.out (.inr (l1,l2,aL,l))))
def e7 (ar aw:A0) (edone:Int) (am:AA) (ebad:Bool) (n:Int):Option (Bool×Int×A0×A0×AA) :=(bv (cW ebad n) bK (aw,am,edone,ar)).bind λo=>match o with|.inl r=>some r|.inr (l,l1,bdone,l2)=>some (false,bdone,l2,l,l1)
def cy (ar:A0) (ebad:Bool) (l3:AA) (y:Bool×Int×A1×A2×A0×A0) (stt:Int):Option (Lp (Int) ((AA×A0×A0) ⊕ Unit)):=match stt with|v=>(bif (leB v (cm .i64 (br ar) 1))then (idx y.2.2.2.2.1 v).bind λx=>(bif (eqB x 0)then (ew y.2.2.2.2.1 y.2.2.2.2.2 y.2.1 l3 ebad (cD .i64 v) false).bind λy1=>some (.out (.inl ((l3++[(⟨(jx (cD .i64 v) (cD .i64 (cD .i64 v))),(br y.2.2.2.2.2),false⟩:Bb)]),(y.2.2.2.2.2++[(cD .i64 v)]),y1))) else some (.next (bE .i64 v 1))) else some (.out (.inr ())))
def bZ (ar:A0) (ebad:Bool) (stt:A0×AA×Int×A1×A2×A0):Option (Lp (A0×AA×Int×A1×A2×A0) ((Bool×Int×A1×A2×A0×A0×AA))):=match stt with
 |(l2,l3,aL,l,mp,l1)=>(dz l mp l1 l2 aL l3 ebad).bind λy=>(bif (eX y.1)then (e7 y.2.2.2.2.1 y.2.2.2.2.2 y.2.1 l3 ebad (cm .i64 (br ar) 1)).bind λy1=>(bif (eX y1.1)then some (.out (false,y1.2.1,y.2.2.1,y.2.2.2.1,y1.2.2.1,y1.2.2.2.1,y1.2.2.2.2)) else some (.next (y1.2.2.2.1,y1.2.2.2.2,y1.2.1,y.2.2.1,y.2.2.2.1,y1.2.2.1))) else (bv (cy ar ebad l3 y) bK 1).bind λo=>match o with
    |.inl (l4,l5,l6)=>some (.next (l5,l4,y.2.1,y.2.2.1,y.2.2.2.1,l6))|.inr _u=>some (.out (true,y.2.1,y.2.2.1,y.2.2.2.1,y.2.2.2.2.1,y.2.2.2.2.2,l3)))
def d7 (aO:A1) (ay:A2) (ar aw:A0) (edone:Int) (am:AA) (ebad:Bool):Option (Bool×Int×A1×A2×A0×A0×AA) :=(bif ebad then some (false,edone,aO,ay,ar,aw,am) else (bv (bZ ar ebad) loopG (aw,am,edone,aO,ay,ar)).bind λr=>some r)
def dh (ar:A0) (_edone:Int) (_ebad:Bool) (n:Int) (stt:Int×Af):Option (Lp (Int×Af) (Af)):=match stt with|(a,out)=>(bif (ltB a (br (List.replicate n.toNat ())))then (idx ar (bE .i64 a 1)).bind λx=>(idx out a).bind λ_x1=>some (.next ((bE .i64 a 1),(out.set a.toNat (eqB x 1)))) else some (.out out))
def eL (ar:A0) (edone:Int) (ebad:Bool) (n:Int):Option Af :=(mkL 1 n n false).bind λ_l=>(bv (dh ar edone ebad n) bK (0,(List.replicate n.toNat false))).bind λout=>some out
def sa (f:Bv):Option (Af×Bool×Int) :=(iZ f).bind λy=>(bif (eX y)then some ([],false,2) else (gy f).bind λy1=>(d7 y1.2.2.2.1 y1.1 y1.2.1 y1.2.2.2.2 0 [] y1.2.2.1).bind λy2=>(bif (eX y2.1)then some ([],false,0) else (eL y2.2.2.2.2.1 y2.2.1 y1.2.2.1 f.Vars).bind λy3=>some (y3,true,0)))
def ij (t:Tree) (gv:Grid):Option (Int×Int×Int) :=(d8 t.Hood).bind λy=>(kg t.States).bind λy1=>(some ()).bind λ_u=>some (y1,(bE .i64 gv.W (ce .i64 2 y)),(bE .i64 gv.H (ce .i64 2 y)))
def ny (l:Af) (vars:A0) (stt:Int×Af):Option (Lp (Int×Af) (Af)):=match stt with|(a,out)=>(bif (ltB a (br vars))then (idx vars a).bind λx=>(idx l x).bind λx1=>(idx out a).bind λ_x2=>some (.next ((bE .i64 a 1),(out.set a.toNat x1))) else some (.out out))
def pj (l:Af) (vars:A0):Option Af :=(mkL 1 (br vars) (br vars) false).bind λ_l1=>(bv (ny l vars) bK (0,(List.replicate (br vars).toNat false))).bind λout=>some out
def oV (l:Af) (stt:Int×Int):Option (Lp (Int×Int) (Int)):=match stt with|(n,a)=>(bif (ltB a (br l))then ((idx l a).bind λx=>(bif x then (ishl .i64 1 a).bind λn1=>some (ior .i64 n n1) else some n)).bind λn1=>some (.next (n1,(bE .i64 a 1))) else some (.out n))
def mz (l:Af):As :=(bif (gtB (br l) 8)then some 0 else (bv (oV l) bK (0,0)).bind λn=>some n)
def dC (l:Af) (a a1 a2:Int) (stt:Int×A0):Option (Lp Av (A0)):=match stt with|(a3,l1)=>(bif (ltB a3 (ce .i64 a a1))then (slcL l (ce .i64 a3 a2) (ce .i64 (bE .i64 a3 1) a2)).bind λl2=>(mz l2).bind λy=>(di 8 l1 [y]).bind λ_l3=>some (.next ((bE .i64 a3 1),(l1++[y]))) else some (.out l1))
def cE (l:Af) (a a1 a2:Int):Option A0 :=(bv (dC l a a1 a2) bK (0,[])).bind λl1=>some l1
def io (t:Tree) (gv:Grid):Option (Grid×Bool×Int) :=(eP t gv).bind λy=>(bif (neB y.2.2 0)then some ((⟨0,0,0,[]⟩:Grid),false,y.2.2) else (kg t.States).bind λy1=>(nA y.1 y.2.1 y1).bind λy2=>(sa y2.1).bind λy3=>((bif (neB y3.2.2 0)then some true else some (eX y3.2.1))).bind λa=>(bif a then some ((⟨0,0,0,[]⟩:Grid),false,y3.2.2) else (ij t gv).bind λy4=>(pj y3.1 y2.2).bind λy5=>(cE y5 y4.2.1 y4.2.2 y4.1).bind λy6=>some ((⟨y4.2.1,y4.2.2,0,y6⟩:Grid),true,0)))
def eF (n most:Int) (y:A2×A0×Bool×A1×A0) (stt:Bool×A2×A0×Int×A1×(List Af)×A0×AA):Option (Lp (Bool×A2×A0×Int×A1×(List Af)×A0×AA) (((List Af)×Int) ⊕ (List Af))):=match stt with|(ok,mp,l,edone,l1,out,l2,l3)=>(bif ok then (bif (geB (br out) most)then some (.out (.inl ([],14))) else (eL l edone y.2.2.1 n).bind λy2=>(di 24 out [y2]).bind λ_l4=>(e7 l l2 edone l3 y.2.2.1 n).bind λy3=>(bif y3.1 then (d7 l1 mp y3.2.2.1 y3.2.2.2.1 y3.2.1 y3.2.2.2.2 y.2.2.1).bind λy4=>some (.next (y4.1,y4.2.2.2.1,y4.2.2.2.2.1,y4.2.1,y4.2.2.1,(out++[y2]),y4.2.2.2.2.2.1,y4.2.2.2.2.2.2)) else some (.next (false,mp,y3.2.2.1,y3.2.1,l1,(out++[y2]),y3.2.2.2.1,y3.2.2.2.2)))) else some (.out (.inr out)))
def kd (f:Bv) (n most:Int):Option ((List Af)×Int) :=((iZ f).bind λy=>(bif (eX y)then some true else (bif (ltB n 0)then some true else (bif (gtB n f.Vars)then some true else (bif (ltB most 0)then some true else some (gtB most 262144)))))).bind λa=>(bif a then some ([],2) else (gy f).bind λy=>(d7 y.2.2.2.1 y.1 y.2.1 y.2.2.2.2 0 [] y.2.2.1).bind λy1=>(bv (eF n most y) bK (y1.1,y1.2.2.2.1,y1.2.2.2.2.1,y1.2.1,y1.2.2.1,[],y1.2.2.2.2.2.1,y1.2.2.2.2.2.2)).bind λo=>match o with
   |.inl r=>some r|.inr out=>some (out,0))
def dA (sv1 sv2:A0) (stt:Int):Option (Lp (Int) (Int ⊕ Unit)):=match stt with|a=>(bif (ltB a (br sv1))then (idx sv1 a).bind λx=>(bif (geB a (br sv2))then some (.out (.inl 1)) else (idx sv2 a).bind λx1=>(fI x x1).bind λy=>(bif (neB y 0)then some (.out (.inl y)) else some (.next (bE .i64 a 1)))) else some (.out (.inr ())))
def gq (sv1 sv2:A0):As :=(bv (dA sv1 sv2) bK 0).bind λo=>match o with|.inl r=>some r|.inr _u=>(bif (ltB (br sv1) (br sv2))then some (-1) else some 0)
def ma (a b:Grid):As :=(gq a.Cells b.Cells).bind λy=>some y
def cA (l:AD):Option AD:=sortR fC fK l
def ig (y1:(List Af)×Int) (y2:Int×Int×Int) (stt:Int×AD):Option (Lp (Int×AD) (AD)):=match stt with|(a1,out)=>(bif (ltB a1 (br y1.1))then (idx y1.1 a1).bind λx=>(cE x y2.2.1 y2.2.2 y2.1).bind λy3=>(di 48 out [(⟨y2.2.1,y2.2.2,0,y3⟩:Grid)]).bind λ_l=>some (.next ((bE .i64 a1 1),(out++[(⟨y2.2.1,y2.2.2,0,y3⟩:Grid)]))) else some (.out out))
def fb (t:Tree) (gv:Grid) (most:Int):Option (AD×Int) :=(eP t gv).bind λy=>(bif (neB y.2.2 0)then some ([],y.2.2) else ((bif (ltB most 1)then some true else some (gtB most 5000))).bind λa=>(bif a then some ([],2) else (kd y.1 y.2.1 most).bind λy1=>(bif (neB y1.2 0)then some ([],y1.2) else (ij t gv).bind λy2=>(bv (ig y1 y2) bK (0,[])).bind λout=>(cA out).bind λy3=>some (y3,0))))
def nN (s:Int) (a:Tree):Ah :=some (geB s a.States)
def dx (s:A0) (cv:Tree) (stt:Int):Option (Lp (Int) (Int ⊕ Unit)):=match stt with|a=>(bif (ltB a (br s))then (idx s a).bind λx=>(nN x cv).bind λy=>(bif y then some (.out (.inl a)) else some (.next (bE .i64 a 1))) else some (.out (.inr ())))
def dQ (s:A0) (cv:Tree):As :=(bv (dx s cv) bK 0).bind λo=>match o with|.inl r=>some r|.inr _u=>some (-1)
def dt (s:A0) (cv:Tree):Ah :=(dQ s cv).bind λy=>some (geB y 0)
def mL (t:Tree) (gv:Grid):As :=(gZ t).bind λy=>(bif (eX y)then some 11 else (lW gv).bind λy1=>(bif (eX y1)then some 2 else (dt gv.Cells t).bind λy2=>(bif y2 then some 10 else some 0)))
def se (s:Int) (a:Tree):Ah :=((bif (ltB s 0)then some true else some (geB s a.States))).bind λa1=>some a1
def e8 (s:A0) (cv:Tree) (stt:Int):Option (Lp (Int) (Int ⊕ Unit)):=match stt with|a=>(bif (ltB a (br s))then (idx s a).bind λx=>(se x cv).bind λy=>(bif y then some (.out (.inl a)) else some (.next (bE .i64 a 1))) else some (.out (.inr ())))
def eA (s:A0) (cv:Tree):As :=(bv (e8 s cv) bK 0).bind λo=>match o with|.inl r=>some r|.inr _u=>some (-1)
def dV (s:A0) (cv:Tree):Ah :=(eA s cv).bind λy=>some (geB y 0)
def rm (t:Tree) (in_:A0) (stt:Int×Int):Option (Lp (Int×Int) (Int)):=match stt with|(k,a)=>(bif (ltB a (br in_))then (idx in_ a).bind λx=>(idx t.Nodes k).bind λx1=>(idx x1.Next x).bind λx2=>some (.next (x2,(bE .i64 a 1))) else some (.out k))
def tG (t:Tree) (in_:A0):As :=(bv (rm t in_) bK ((cm .i64 (br t.Nodes) 1),0)).bind λk=>some k
def m_tree_Eval (t:Tree) (in_:A0):Option (Int×Int) :=(gZ t).bind λy=>(bif (eX y)then some (0,11) else (bif (neB (br in_) (br t.Hood))then some (0,2) else (dV in_ t).bind λy1=>(bif y1 then some (0,10) else (tG t in_).bind λy2=>some (y2,0))))
def mU (t:Tree) (gv:Grid) (y1 a1 a2:Int) (_l1:A0) (stt:Int×A0):Option (Lp Av (A0)):=match stt with|(a3,in_)=>(bif (ltB a3 (br t.Hood))then (idx t.Hood a3).bind λx=>(idx gv.Cells (bE .i64 (bE .i64 (bE .i64 (ce .i64 (bE .i64 (bE .i64 a1 y1) x.Y) gv.W) a2) y1) x.X)).bind λx1=>(di 8 in_ [x1]).bind λ_l2=>some (.next ((bE .i64 a3 1),(in_++[x1]))) else some (.out in_))
def mP (t:Tree) (gv:Grid) (y1 a1:Int) (stt:Int×A0):Option (Lp Av (A0)):=match stt with|(a2,l1)=>(bif (ltB a2 (cm .i64 gv.W (ce .i64 2 y1)))then (bv (mU t gv y1 a1 a2 l1) bK (0,[])).bind λin_=>(m_tree_Eval t in_).bind λy2=>(di 8 l1 [y2.1]).bind λ_l2=>some (.next ((bE .i64 a2 1),(l1++[y2.1]))) else some (.out l1))
def mQ (t:Tree) (gv:Grid) (y1:Int) (stt:Int×A0):Option (Lp Av (A0)):=match stt with|(a1,l)=>(bif (ltB a1 (cm .i64 gv.H (ce .i64 2 y1)))then (bv (mP t gv y1 a1) bK (0,l)).bind λl1=>some (.next ((bE .i64 a1 1),l1)) else some (.out l))
def o8 (t:Tree) (gv:Grid):Option (Grid×Int) :=(mL t gv).bind λy=>(bif (neB y 0)then some ((⟨0,0,0,[]⟩:Grid),y) else (d8 t.Hood).bind λy1=>((bif (ltB (cm .i64 gv.W (ce .i64 2 y1)) 1)then some true else some (ltB (cm .i64 gv.H (ce .i64 2 y1)) 1))).bind λa=>(bif a then some ((⟨0,0,0,[]⟩:Grid),6) else (bv (mQ t gv y1) bK (0,[])).bind λl=>some ((⟨(cm .i64 gv.W (ce .i64 2 y1)),(cm .i64 gv.H (ce .i64 2 y1)),0,l⟩:Grid),0)))
def mW (t:Tree) (n:Int) (stt:Int×Int×Int×A0×AD):Option (Lp (Int×Int×Int×A0×AD) (AD)):=match stt with|(gW,gH,b0,aR,out)=>(bif (ltB (br out) n)then (io t (⟨gW,gH,b0,aR⟩:Grid)).bind λy1=>((bif (eqB y1.2.2 6)then some true else some (eX y1.2.1))).bind λa1=>(bif a1 then some (.out out) else (di 48 out [y1.1]).bind λ_l=>some (.next (y1.1.W,y1.1.H,y1.1.Edge,y1.1.Cells,(out++[y1.1])))) else some (.out out))
def oB (t:Tree) (gv:Grid) (n:Int):Option (AD×Int) :=(mL t gv).bind λy=>(bif (neB y 0)then some ([],y) else ((bif (ltB n 0)then some true else some (gtB n 100))).bind λa=>(bif a then some ([],2) else (bv (mW t n) bK (gv.W,gv.H,gv.Edge,gv.Cells,[])).bind λout=>some (out,0)))
def nB (a b:Grid) (stt:Int):Option (Lp (Int) (Bool ⊕ Unit)):=match stt with|i=>(bif (ltB i (br a.Cells))then (idx a.Cells i).bind λx=>(idx b.Cells i).bind λx1=>(bif (neB x x1)then some (.out (.inl false)) else some (.next (bE .i64 i 1))) else some (.out (.inr ())))
def mV (a b:Grid):Ah :=((bif (neB a.W b.W)then some true else (bif (neB a.H b.H)then some true else (bif (neB a.Edge b.Edge)then some true else some (neB (br a.Cells) (br b.Cells)))))).bind λa1=>(bif a1 then some false else (bv (nB a b) bK 0).bind λo=>match o with
   |.inl r=>some r|.inr _u=>some true)
def oP:Ah :=(m_L48_shift).bind λy=>(io y (⟨1,1,0,[1]⟩:Grid)).bind λy1=>(fb y (⟨1,1,0,[1]⟩:Grid) 256).bind λy2=>(fb y (⟨1,1,0,[1]⟩:Grid) 255).bind λy3=>(o8 y y1.1).bind λy4=>(io (⟨2,[(⟨0,0⟩:Point)],[(⟨1,[1,1]⟩:Node)]⟩:Tree) (⟨1,1,0,[0]⟩:Grid)).bind λy5=>(oB y (⟨1,1,0,[1]⟩:Grid) 5).bind λy6=>(io (⟨0,[],[]⟩:Tree) (⟨1,1,0,[1]⟩:Grid)).bind λy7=>((bif y1.2.1 then (bif (eqB y1.2.2 0)then (mV y1.1 (⟨3,3,0,[0,0,0,1,0,0,0,0,0]⟩:Grid)).bind λy8=>(bif y8 then (bif (eqB y2.2 0)then (bif (eqB (br y2.1) 256)then (bif (eqB y3.2 14)then (bif (eqB y4.2 0)then (mV y4.1 (⟨1,1,0,[1]⟩:Grid)).bind λy9=>(bif y9 then (bif (eX y5.2.1)then (bif (eqB y5.2.2 0)then (bif (eqB y6.2 0)then (bif (eqB (br y6.1) 1)then some (eqB y7.2.2 11) else some false) else some false) else some false) else some false) else some false) else some false) else some false) else some false) else some false) else some false) else some false) else some false)).bind λa=>some a
def mw (t:Tree) (gv:Grid) (stt:Int):Option (Lp (Int) (Int ⊕ Unit)):=match stt with|i=>(bif (ltB i (br gv.Cells))then (idx gv.Cells i).bind λx=>(bif (geB x t.States)then some (.out (.inl 10)) else some (.next (bE .i64 i 1))) else some (.out (.inr ())))
def jb (t:Tree) (gv:Grid):As :=(lI t).bind λy=>(bif (eX y)then some 11 else (nj gv).bind λy1=>(bif (eX y1)then some 2 else (bv (mw t gv) bK 0).bind λo=>match o with
    |.inl r=>some r|.inr _u=>(du t.Hood).bind λy2=>(bif (gtB (ce .i64 (bE .i64 gv.W (ce .i64 2 y2)) (bE .i64 gv.H (ce .i64 2 y2))) 16)then some 6 else some 0)))
def nV (states:Int):As :=(bif (eqB states 2)then some 1 else ((bif (eqB states 3)then some true else some (eqB states 4))).bind λa=>(bif a then some 2 else ((bif (geB states 5)then some (leB states 8) else some false)).bind λa1=>(bif a1 then some 3 else some 0)))
def og (n k:Int):As :=(ishr .i64 n (pt .u64 k)).bind λn1=>some (iand .i64 n1 1)
def l7 (p:A0) (cv:Int) (stt:Int×A0):Option (Lp Av (A0)):=match stt with|(jv,out)=>(bif (ltB jv (br p))then ((og cv jv).bind λy=>(bif (eqB y 1)then (idx p jv).bind λx=>(di 8 out [(cD .i64 x)]).bind λ_l=>some (out++[(cD .i64 x)]) else (idx p jv).bind λx=>(di 8 out [x]).bind λ_l=>some (out++[x]))).bind λout1=>some (.next ((bE .i64 jv 1),out1)) else some (.out out))
def lj (p:A0) (cv:Int):Option A0 :=(bv (l7 p cv) bK (0,[])).bind λout=>some out
def gj (_az:Int) (aD:A1) (l:A0):Option (Unit) :=(di 8 [] l).bind λ_l1=>(di 8 ([]++l) []).bind λ_l2=>(di 24 aD [(([]++l)++[])]).bind λ_l3=>some ()
def jo (_n _states y i:Int) (_l:A1) (_out:AC) (stt:Int×A0):Option (Lp Av (A0)):=match stt with|(k,l1)=>(bif (leB k y)then (di 8 l1 [(bE .i64 (ce .i64 i y) k)]).bind λ_l2=>some (.next ((bE .i64 k 1),(l1++[(bE .i64 (ce .i64 i y) k)]))) else some (.out l1))
def jq (n _states y _i:Int) (_out:AC) (l1:A0) (stt:Int×A1):Option (Lp (Int×A1) (A1)):=match stt with|(cv,l2)=>(ishl .i64 1 (pt .u64 y)).bind λn1=>(bif (ltB cv n1)then (lj l1 cv).bind λy1=>(gj (ce .i64 n y) l2 y1).bind λ_y2=>some (.next ((bE .i64 cv 1),(l2++[(([]++y1)++[])]))) else some (.out l2))
def lq (n states y:Int) (stt:Int×A1×AC):Option (Lp (Int×A1×AC) ((A1×AC))):=match stt with|(i,l,out)=>(bif (ltB i n)then (bv (jo n states y i l out) bK (1,[])).bind λl1=>(bv (jq n states y i out l1) bK (states,l)).bind λl2=>(di 32 out [(⟨0,l1⟩:Ba)]).bind λ_l3=>some (.next ((bE .i64 i 1),l2,(out++[(⟨0,l1⟩:Ba)]))) else some (.out (l,out)))
def oR (n states:Int):Option (Int×AC×A1) :=(nV states).bind λy=>(bv (lq n states y) bK (0,[],[])).bind λ(l,out)=>some ((ce .i64 n y),out,l)
def mb (a b:A0) (stt:Int):Option (Lp (Int) (Bool ⊕ Unit)):=match stt with|i=>(bif (ltB i (br a))then (idx a i).bind λx=>(idx b i).bind λx1=>(bif (neB x x1)then some (.out (.inl false)) else some (.next (bE .i64 i 1))) else some (.out (.inr ())))
def qe (a b:A0):Ah :=(bif (neB (br a) (br b))then some false else (bv (mb a b) bK 0).bind λo=>match o with
   |.inl r=>some r|.inr _u=>some true)
def eE (l:Ax) (i:Int) (av:A0) (_nexts:A1) (stt:Int×A0):Option (Lp Av (A0)):=match stt with|(s,next)=>(idx l i).bind λx=>(bif (ltB s (br x.Next))then (idx x.Next s).bind λx1=>((bif (gtB x.Level 1)then (idx av x1).bind λx2=>some x2 else some x1)).bind λk=>(di 8 next [k]).bind λ_l1=>some (.next ((bE .i64 s 1),(next++[k]))) else some (.out next))
def iY (l:Ax) (i:Int) (_av:A0) (nexts:A1) (next:A0) (stt:Int×Int):Option (Lp (Int×Int) (Int)):=match stt with|(first,jv)=>(bif (geB jv 0)then (((idx l jv).bind λx=>(idx l i).bind λx1=>(bif (eqB x.Level x1.Level)then (idx nexts jv).bind λx2=>(qe x2 next).bind λy=>some y else some false)).bind λa=>(bif a then some jv else some first)).bind λfirst1=>some (.next (first1,(cm .i64 jv 1))) else some (.out first))
def gJ (l:Ax) (stt:Int×A0×A1):Option (Lp (Int×A0×A1) (A0)):=match stt with|(i,av,nexts)=>(bif (ltB i (br l))then (bv (eE l i av nexts) bK (0,[])).bind λnext=>(bv (iY l i av nexts next) bK (i,(cm .i64 i 1))).bind λfirst=>(di 8 av [first]).bind λ_l1=>(di 24 nexts [next]).bind λ_l2=>some (.next ((bE .i64 i 1),(av++[first]),(nexts++[next]))) else some (.out av))
def mC (l:Ax):Option A0 :=(bv (gJ l) bK (0,[],[])).bind λav=>some av
def eR (rcv:AG) (l:Ax) (av:A0) (i:Int) (_out:Ax) (x1:Node) (stt:Int×A0×Ax×A0):Option (Lp (Int×A0×Ax×A0) ((A0×Ax×A0))):=match stt with|(s,l1,out1,aN)=>(idx l i).bind λx2=>(bif (ltB s (br x2.Next))then (idx x2.Next s).bind λx3=>((bif (gtB x1.Level 1)then (idx av x3).bind λx4=>(rcv l av x4 aN out1).bind λy=>(idx y.1 x4).bind λx5=>some (x5,y.2,y.1) else some (x3,out1,aN))).bind λ(k,out2,done2)=>(di 8 l1 [k]).bind λ_l2=>some (.next ((bE .i64 s 1),(l1++[k]),out2,done2)) else some (.out (l1,out1,aN)))
def fP (rcv:AG) (l:Ax) (av:A0) (i:Int) (done:A0) (out:Ax):Option (A0×Ax) :=(idx done i).bind λx=>(bif (geB x 0)then some (done,out) else (idx l i).bind λx1=>(bv (eR rcv l av i out x1) bK (0,[],out,done)).bind λ(l1,out1,aN)=>(idx aN i).bind λ_x2=>(di 32 out1 [(⟨x1.Level,l1⟩:Node)]).bind λ_l2=>some ((aN.set i.toNat (br out1)),(out1++[(⟨x1.Level,l1⟩:Node)])))
def m_R13_walk_o_o (l:Ax) (av:A0) (i:Int) (done:A0) (out:Ax):Option (A0×Ax):=ry fP (λ_ _ _ _ _=>none) recF l av i done out
def oc (l:Ax) (av:A0) (i:Int) (x1:Node) (stt:Int×A0×Ax×A0):Option (Lp (Int×A0×Ax×A0) ((A0×Ax×A0))):=match stt with|(s,l1,out,aN)=>(idx l i).bind λx2=>(bif (ltB s (br x2.Next))then (idx x2.Next s).bind λx3=>((bif (gtB x1.Level 1)then (idx av x3).bind λx4=>(m_R13_walk_o_o l av x4 aN out).bind λy=>(idx y.1 x4).bind λx5=>some (x5,y.2,y.1) else some (x3,out,aN))).bind λ(k,out1,done2)=>(di 8 l1 [k]).bind λ_l2=>some (.next ((bE .i64 s 1),(l1++[k]),out1,done2)) else some (.out (l1,out,aN)))
def p8 (_rcv:(Ax->A0->Int->A0->Option (A0×Ax))) (l:Ax) (av:A0) (i:Int) (done:A0):Option (A0×Ax) :=(idx done i).bind λx=>(bif (geB x 0)then some (done,[]) else (idx l i).bind λx1=>(bv (oc l av i x1) bK (0,[],[],done)).bind λ(l1,out,aN)=>(idx aN i).bind λ_x2=>(di 32 out [(⟨x1.Level,l1⟩:Node)]).bind λ_l2=>some ((aN.set i.toNat (br out)),(out++[(⟨x1.Level,l1⟩:Node)])))
def qf (l:Ax) (av:A0) (i:Int) (done:A0):Option (A0×Ax):=ry p8 (λ_ _ _ _=>none) recF l av i done
def iW (l:Ax) (_y:A0) (stt:Int×A0):Option (Lp Av (A0)):=match stt with|(i,done)=>(bif (ltB i (br l))then (di 8 done [(-1)]).bind λ_l1=>some (.next ((bE .i64 i 1),(done++[(-1)]))) else some (.out done))
def mr (l:Ax):Option Ax :=(mC l).bind λy=>(bv (iW l y) bK (0,[])).bind λdone=>(idx y (cm .i64 (br l) 1)).bind λx=>(qf l y x done).bind λy1=>some y1.2
def lX (t:Tree):Option (Tree) :=(lI t).bind λy=>(bif (eX y)then some (⟨0,[],[]⟩:Tree) else (mr t.Nodes).bind λy1=>some (⟨t.States,t.Hood,y1⟩:Tree))
def lP (f:Bv):Ah :=((bif (leB f.Vars 65536)then some (leB (br f.Clauses) 262144) else some false)).bind λa=>some a
def lf (l:A0) (stt:Int):Option (Lp (Int) (Bool ⊕ Unit)):=match stt with|i=>(bif (ltB i (br l))then (idx l i).bind λx=>(idx l 0).bind λx1=>(bif (neB x x1)then some (.out (.inl false)) else some (.next (bE .i64 i 1))) else some (.out (.inr ())))
def oH (l:A0):Ah :=(bv (lf l) bK 1).bind λo=>match o with|.inl r=>some r|.inr _u=>some true
def gr (_az:Int) (aD:A1) (l more:A0):Option (Unit) :=(di 8 [] l).bind λ_l1=>(di 8 ([]++l) more).bind λ_l2=>(di 24 aD [(([]++l)++more)]).bind λ_l3=>some ()
def gg (t:Tree) (_in_:AC) (_y _i _aH:Int) (_l:A1) (of_:AC) (x:Node) (stt:Int×AC):Option (Lp (Int×AC) (AC)):=match stt with|(s,kids)=>(bif (ltB s t.States)then ((bif (eqB x.Level 1)then (idx x.Next s).bind λx1=>(di 32 kids [(⟨x1,[]⟩:Ba)]).bind λ_l1=>some (kids++[(⟨x1,[]⟩:Ba)]) else (idx x.Next s).bind λx1=>(idx of_ x1).bind λx2=>(di 32 kids [x2]).bind λ_l1=>some (kids++[x2]))).bind λkids1=>some (.next ((bE .i64 s 1),kids1)) else some (.out kids))
def gl (_t:Tree) (_in_:AC) (y _i:Int) (_l:A1) (_of_:AC) (_x:Node) (_kids:AC) (stt:Int×Int×A0):Option (Lp (Int×Int×A0) (Av)):=match stt with|(k,aC,l1)=>(bif (ltB k y)then (di 8 l1 [(bE .i64 aC 1)]).bind λ_l2=>some (.next ((bE .i64 k 1),(bE .i64 aC 1),(l1++[(bE .i64 aC 1)]))) else some (.out (aC,l1)))
def ib (_t:Tree) (_in_:AC) (y _i:Int) (_of_:AC) (_x:Node) (kids:AC) (aC:Int) (l1:A0) (s:Int) (y2:A0) (stt:Int×A1):Option (Lp (Int×A1) (A1)):=match stt with|(k,l4)=>(bif (ltB k y)then ((idx kids s).bind λx2=>(bif (gtB (br x2.Vars) 0)then (idx l1 k).bind λx3=>(idx x2.Vars k).bind λx4=>(gr aC l4 y2 [(cD .i64 x3),x4]).bind λ_y3=>(gr aC (l4++[(([]++y2)++[(cD .i64 x3),x4])]) y2 [x3,(cD .i64 x4)]).bind λ_y4=>some ((l4++[(([]++y2)++[(cD .i64 x3),x4])])++[(([]++y2)++[x3,(cD .i64 x4)])]) else (og x2.State k).bind λy3=>(bif (eqB y3 1)then (idx l1 k).bind λx3=>(gr aC l4 y2 [x3]).bind λ_y4=>some (l4++[(([]++y2)++[x3])]) else (idx l1 k).bind λx3=>(gr aC l4 y2 [(cD .i64 x3)]).bind λ_y4=>some (l4++[(([]++y2)++[(cD .i64 x3)])])))).bind λl5=>some (.next ((bE .i64 k 1),l5)) else some (.out l4))
def im (t:Tree) (in_:AC) (y i:Int) (of_:AC) (x:Node) (kids:AC) (aC:Int) (l1:A0) (stt:Int×A1):Option (Lp (Int×A1) (A1)):=match stt with|(s,l3)=>(bif (ltB s t.States)then (idx in_ (cm .i64 (br t.Hood) x.Level)).bind λx1=>(lj x1.Vars s).bind λy2=>(bv (ib t in_ y i of_ x kids aC l1 s y2) bK (0,l3)).bind λl4=>some (.next ((bE .i64 s 1),l4)) else some (.out l3))
def gh (t:Tree) (in_:AC) (y:Int) (stt:Int×Int×A1×AC):Option (Lp (Int×Int×A1×AC) ((Int×A1×AC))):=match stt with|(i,aH,l,of_)=>((bif (ltB i (br t.Nodes))then (lP (⟨aH,l⟩:Bv)).bind λy1=>some y1 else some false)).bind λa=>(bif a then (idx t.Nodes i).bind λx=>(bv (gg t in_ y i aH l of_ x) bK (0,[])).bind λkids=>(oH x.Next).bind λy1=>(bif y1 then (idx kids 0).bind λx1=>(di 32 of_ [x1]).bind λ_l1=>some (.next ((bE .i64 i 1),aH,l,(of_++[x1]))) else (bv (gl t in_ y i l of_ x kids) bK (0,aH,[])).bind λ(aC,l1)=>(di 32 of_ [(⟨0,l1⟩:Ba)]).bind λ_l2=>(bv (im t in_ y i of_ x kids aC l1) bK (0,l)).bind λl3=>some (.next ((bE .i64 i 1),aC,l3,(of_++[(⟨0,l1⟩:Ba)])))) else some (.out (aH,l,of_)))
def lH (az:Int) (aD:A1) (t:Tree) (in_:AC):Option (Int×Int×A0×A1) :=(nV t.States).bind λy=>(bv (gh t in_ y) bK (0,az,aD,[])).bind λ(aH,l,of_)=>(lP (⟨aH,l⟩:Bv)).bind λy1=>(bif (eX y1)then some (aH,0,[],l) else (idx of_ (cm .i64 (br of_) 1)).bind λx=>some (aH,x.State,x.Vars,l))
def mJ (az:Int) (l:A0) (n:Int) (stt:Int×A1):Option (Lp (Int×A1) (A1)):=match stt with|(k,l1)=>(bif (ltB k (br l))then ((og n k).bind λy=>(bif (eqB y 1)then (idx l k).bind λx=>(gj az l1 [x]).bind λ_y1=>some (l1++[(([]++[x])++[])]) else (idx l k).bind λx=>(gj az l1 [(cD .i64 x)]).bind λ_y1=>some (l1++[(([]++[(cD .i64 x)])++[])]))).bind λl2=>some (.next ((bE .i64 k 1),l2)) else some (.out l1))
def oL (az:Int) (aD:A1) (l:A0) (n:Int):Option A1 :=(bv (mJ az l n) bK (0,aD)).bind λl1=>some l1
def iz (_az:Int) (aD:A1):Option (Unit) :=(di 8 ([]:A0) []).bind λ_l=>(di 8 (([]:A0)++[]) []).bind λ_l1=>(di 24 aD [((([]:A0)++[])++[])]).bind λ_l2=>some ()
def gD (gv:Grid) (y1:Int) (y2:Int×AC×A1) (y3:Tree) (_i _az:Int) (_l:A1) (n n1:Int) (stt:Int×AC):Option (Lp (Int×AC) (AC)):=match stt with|(k,in_)=>(bif (ltB k (br y3.Hood))then (idx y3.Hood k).bind λx=>(idx y2.2.1 (bE .i64 (bE .i64 (ce .i64 (bE .i64 (bE .i64 n1 y1) x.Y) (bE .i64 gv.W (ce .i64 2 y1))) (bE .i64 n y1)) x.X)).bind λx1=>(di 32 in_ [x1]).bind λ_l1=>some (.next ((bE .i64 k 1),(in_++[x1]))) else some (.out in_))
def dW (gv:Grid) (y1:Int) (y2:Int×AC×A1) (y3:Tree) (stt:Int×Int×A1):Option (Lp (Int×Int×A1) ((Int×A1))):=match stt with|(i,az,l)=>((bif (ltB i (br gv.Cells))then (lP (⟨az,l⟩:Bv)).bind λy4=>some y4 else some false)).bind λa=>(bif a then (irem i gv.W).bind λn=>(iquo .i64 i gv.W).bind λn1=>(bv (gD gv y1 y2 y3 i az l n n1) bK (0,[])).bind λin_=>(lH az l y3 in_).bind λy4=>(bif (gtB (br y4.2.2.1) 0)then (idx gv.Cells i).bind λx=>(oL y4.1 y4.2.2.2 y4.2.2.1 x).bind λy5=>some (.next ((bE .i64 i 1),y4.1,y5)) else (idx gv.Cells i).bind λx=>(bif (neB y4.2.1 x)then (iz y4.1 y4.2.2.2).bind λ_y5=>some (.next ((bE .i64 i 1),y4.1,(y4.2.2.2++[((([]:A0)++[])++[])]))) else some (.next ((bE .i64 i 1),y4.1,y4.2.2.2)))) else some (.out (az,l)))
def ji (t:Tree) (gv:Grid):Option (Bv×Int×Int) :=(jb t gv).bind λy=>(bif (neB y 0)then some ((⟨0,[]⟩:Bv),0,y) else (du t.Hood).bind λy1=>(oR (ce .i64 (bE .i64 gv.W (ce .i64 2 y1)) (bE .i64 gv.H (ce .i64 2 y1))) t.States).bind λy2=>(lX t).bind λy3=>(bv (dW gv y1 y2 y3) bK (0,y2.1,y2.2.2)).bind λ(az,l)=>(lP (⟨az,l⟩:Bv)).bind λy4=>(bif (eX y4)then some ((⟨0,[]⟩:Bv),0,6) else some ((⟨az,l⟩:Bv),y2.1,0)))
def lm (t:Tree) (in_:A0) (stt:Int×Int):Option (Lp (Int×Int) (Int)):=match stt with|(k,i)=>(bif (ltB i (br in_))then (idx t.Nodes k).bind λx=>(idx in_ i).bind λx1=>(idx x.Next x1).bind λx2=>some (.next (x2,(bE .i64 i 1))) else some (.out k))
def oM (t:Tree) (in_:A0):As :=(bv (lm t in_) bK ((cm .i64 (br t.Nodes) 1),0)).bind λk=>some k
def jl (t:Tree) (cells:A0) (w r_ x y:Int) (stt:Int×A0):Option (Lp Av (A0)):=match stt with|(k,in_)=>(bif (ltB k (br t.Hood))then (idx t.Hood k).bind λx1=>(idx cells (bE .i64 (bE .i64 (bE .i64 (ce .i64 (bE .i64 (bE .i64 y r_) x1.Y) w) x) r_) x1.X)).bind λx2=>(di 8 in_ [x2]).bind λ_l=>some (.next ((bE .i64 k 1),(in_++[x2]))) else some (.out in_))
def oE (t:Tree) (cells:A0) (w r_ x y:Int):As :=(bv (jl t cells w r_ x y) bK (0,[])).bind λin_=>(oM t in_).bind λy1=>some y1
def mA (t:Tree) (gv:Grid) (cells:A0) (y stt:Int):Option (Lp (Int) (Bool ⊕ Unit)):=match stt with|i=>(bif (ltB i (br gv.Cells))then (irem i gv.W).bind λn=>(iquo .i64 i gv.W).bind λn1=>(idx t.Hood (cm .i64 (br t.Hood) 1)).bind λx=>((bif (eqB (bE .i64 (bE .i64 (bE .i64 (ce .i64 (bE .i64 (bE .i64 n1 y) x.Y) (bE .i64 gv.W (ce .i64 2 y))) n) y) x.X) (cm .i64 (br cells) 1))then (oE t cells (bE .i64 gv.W (ce .i64 2 y)) y n n1).bind λy1=>(idx gv.Cells i).bind λx1=>some (neB y1 x1) else some false)).bind λa=>(bif a then some (.out (.inl true)) else some (.next (bE .i64 i 1))) else some (.out (.inr ())))
def oO (t:Tree) (gv:Grid) (cells:A0):Ah :=(du t.Hood).bind λy=>(bv (mA t gv cells y) bK 0).bind λo=>match o with|.inl r=>some r|.inr _u=>some false
def jz (rcv:(Tree->Grid->A0->Int->Option AD)) (t:Tree) (gv:Grid) (cells:A0) (most:Int) (stt:Int×AD):Option (Lp (Int×AD) (AD)):=match stt with|(s,out)=>((bif (ltB s t.States)then some (ltB (br out) most) else some false)).bind λa=>(bif a then ((di 8 [] cells).bind λ_l=>(di 8 ([]++cells) [s]).bind λ_l1=>(oO t gv (([]++cells)++[s])).bind λy1=>(bif (eX y1)then (rcv t gv (([]++cells)++[s]) (cm .i64 most (br out))).bind λy2=>(di 48 out y2).bind λ_l2=>some (out++y2) else some out)).bind λout1=>some (.next ((bE .i64 s 1),out1)) else some (.out out))
def gp (rcv:(Tree->Grid->A0->Int->Option AD)) (t:Tree) (gv:Grid) (cells:A0) (most:Int):Option AD :=(du t.Hood).bind λy=>(bif (eqB (br cells) (ce .i64 (bE .i64 gv.W (ce .i64 2 y)) (bE .i64 gv.H (ce .i64 2 y))))then some [(⟨(bE .i64 gv.W (ce .i64 2 y)),(bE .i64 gv.H (ce .i64 2 y)),0,cells⟩:Grid)] else (bv (jz rcv t gv cells most) bK (0,[])).bind λout=>some out)
def tq (t:Tree) (gv:Grid) (cells:A0) (most:Int):Option AD:=ry gp (λ_ _ _ _=>none) recF t gv cells most
def nh (t:Tree) (gv:Grid) (most:Int):Option (AD×Int) :=(ji t gv).bind λy=>(bif (neB y.2.2 0)then some ([],y.2.2) else ((bif (ltB most 1)then some true else some (gtB most 5000))).bind λa=>(bif a then some ([],2) else (tq t gv [] (bE .i64 most 1)).bind λy1=>(bif (gtB (br y1) most)then some ([],14) else some (y1,0))))
def nu (a b:AD) (stt:Int):Option (Lp (Int) (Bool ⊕ Unit)):=match stt with|i=>(bif (ltB i (br a))then (idx a i).bind λx=>(idx b i).bind λx1=>(mV x x1).bind λy=>(bif (eX y)then some (.out (.inl false)) else some (.next (bE .i64 i 1))) else some (.out (.inr ())))
def rl (a b:AD):Ah :=(bif (neB (br a) (br b))then some false else (bv (nu a b) bK 0).bind λo=>match o with
   |.inl r=>some r|.inr _u=>some true)
def lB (t:Tree) (gv:Grid) (most:Int):Ah :=(sD t gv).bind λy=>(bif (eX y)then (oP).bind λy1=>some y1 else (fb t gv most).bind λy1=>(nh t gv most).bind λy2=>((rl y1.1 y2.1).bind λy3=>(bif y3 then (bif (eqB y1.2 y2.2)then (oP).bind λy4=>some y4 else some false) else some false)).bind λa=>some a)
abbrev vI (n:Int):V:=.u (.one (.d (.int .i64 n)))
abbrev dI (n:Int):C:=.d (.int .i64 n)
abbrev vX (k:Nat):V:=.u (.one (.box k 0))
abbrev vO (k:Nat):V:=.u (.one (.own k))
abbrev dL (l:A0):C:=.d (.sl 1 (List.map (rI .i64) l))
abbrev vT (b:Bool):V:=.u (.one (.d (.bool b)))
abbrev dR0 (l:AD):C:=.d (.sl 4 (List.map Grid.row l))
abbrev dR1 (l:Ax):C:=.d (.sl 2 (List.map Node.row l))
abbrev dR2 (l:Az):C:=.d (.sl 2 (List.map Point.row l))
abbrev dR3 (l:AC):C:=.d (.sl 2 (List.map Ba.row l))
abbrev dR5 (l:AB):C:=.d (.sl 2 (List.map Bw.row l))
abbrev qQ (a):=(.row 1 3 (List.map (rI .i64) a):Ob)
abbrev qW (a):=(.row 1 26 (List.map (rS 1 (rI .i64)) a):Ob)
abbrev qX (a:Tree):=(.box [dI a.States,dR2 a.Hood,dR1 a.Nodes]:Ob)
abbrev qY (a) (b) (c) (d) (e) (f) (g):=(.box [dI a,.own b,dI c,dR2 d,dR1 e,dI f,.map g]:Ob)
abbrev qZ (a:Tree):=(.u (.agg [dI a.States,dR2 a.Hood,dR1 a.Nodes]):V)
abbrev qK (a):=(.row 1 135 (List.map (rI .i8) a):Ob)
abbrev qJ (a):=(mOb .str kS (uA Tree.row) a:Ob)
abbrev qH (a:Grid):=(.box [dI a.W,dI a.H,dI a.Edge,dL a.Cells]:Ob)
abbrev qG (a):=(.u (.one (dL a)):V)
abbrev qF (a:Grid):=(.u (.agg [dI a.W,dI a.H,dI a.Edge,dL a.Cells]):V)
abbrev qD (a):=(.row 2 112 (List.map Ba.row a):Ob)
abbrev qA (a):=(.row 2 53 (List.map Node.row a):Ob)
abbrev qB (a):=(.row 3 140 (List.map Bb.row a):Ob)
abbrev qC (a):=(mOb .str kS (uL (L.int .i64)) a:Ob)
abbrev qE (a):=(.d (.sl 1 (List.map (rS 1 (rI .i64)) a)):C)
abbrev qI (a) (b) (c) (d) (e) (f) (g):=(.box [.own a,.map b,.own c,.own d,dI e,.own f,.d (.bool g)]:Ob)
abbrev qL:=(.box [dI 0,.d .nil]:Ob)
abbrev qM (a):=(.row 2 95 (List.map Bw.row a):Ob)
abbrev qN:=(.box [.fn 145 [.box 1000000 0,.box 1000002 0,.box 1000003 0,.box 1000004 0]]:Ob)
abbrev qO:=(.agg [dI 0,.d .nil,.d .nil]:U)
abbrev qP (a) (b):=(.box [dI a,.own b]:Ob)
abbrev qR (a:Node):=(.box [dI a.Level,dL a.Next]:Ob)
abbrev qS (a):=(.u (.one (dR1 a)):V)
abbrev qT (a) (b) (c) (d) (e) (f) (g):=(.box [.opq a,.opq b,.own c,.own d,dI e,.own f,.d (.bool g)]:Ob)
abbrev qU (a):=(.row 1 5 (List.map (rI .u8) a):Ob)
abbrev qV:=(.box [dI 0,dI 0,dI 0,dI 0,.d .nil]:Ob)
abbrev kQ:=(.box [dI 0,.d .nil,.d .nil]:Ob)
abbrev kW (a):=(.row 4 28 (List.map Grid.row a):Ob)
abbrev kX (a:Bz):=(.box [dI a.box.X,dI a.box.Y,dI a.box.W,dI a.box.H,dR5 a.values]:Ob)
abbrev kY (a):=(.u (.one (.d (.sl 1 (List.map rB a)))):V)
abbrev kZ (a) (b) (c) (d) (e):=(qY a 1000001 b c d e 1000002:Ob)
abbrev kK (a):=(.d (.bool a):C)
abbrev kJ (a:Box):=(.box [dI a.X,dI a.Y,dI a.W,dI a.H,.own 5002]:Ob)
abbrev kH (a) (b) (c) (d) (e):=(.u (.one (.fn 141 [.ref [.ref [.any,.any,(.sl 1 (List.map (rI .i8) a)),(.sl 1 (List.map (rI .i64) b)),(.int .i64 c),(.sl 3 (List.map Bb.row d)),(.bool e)] 0] 0])):V)
abbrev kG:=(.box [dI 0,dI 0,dI 0,.d .nil]:Ob)
abbrev kF:=(.u (.one (.fn 130 [.box 1000000 0,.box 1000001 0,.box 1000002 0])):V)
abbrev kD (a) (b) (c):=(.box [dI a,dR2 b,dR1 c]:Ob)
abbrev kA (a) (b) (c) (d) (e):=(.u (.one (.ref [.any,.any,(.sl 1 (List.map (rI .i8) a)),(.sl 1 (List.map (rI .i64) b)),(.int .i64 c),(.sl 3 (List.map Bb.row d)),(.bool e)] 0)):V)
abbrev kB (a:Box):=(.box [dI a.X,dI a.Y,dI a.W,dI a.H,.own 5000]:Ob)
abbrev kC (a):=(.box [dI a]:Ob)
abbrev kE (a) (b):=(.box [.own a,.map b]:Ob)
abbrev kL (a):=(.u (.one (dR2 a)):V)
abbrev kM (a):=(.box [.own a]:Ob)
abbrev kN (a:Box):=(.box [dI a.X,dI a.Y,dI a.W,dI a.H]:Ob)
abbrev kO:=(.row 1 26 (List.map (rS 1 (rI .i64)) []):Ob)
abbrev kP:=(.d (.bool false):C)
abbrev kR (a) (b) (c):=(.agg [dI a,dR2 b,dR1 c]:U)
abbrev kT (a:Bv):=(.u (.one (qE a.Clauses)):V)
abbrev kU (a:Bv):=(.u (.agg [dI a.Vars,qE a.Clauses]):V)
abbrev kV (a) (b) (c):=(.box [dI a,dI b,dI 0,.own c]:Ob)
abbrev jQ:=(.box [dI 0,.own 5001]:Ob)
abbrev jW (a) (b):=(.u (.agg [dI a,.own b]):V)
abbrev jX:=(.u (.one (.d .nil)):V)
abbrev jY:=(.row 3 140 (List.map Bb.row []):Ob)
abbrev jZ (a) (b):=(qI 1000001 1000002 1000003 1000006 a 1000005 b:Ob)
abbrev jK (a) (b) (c):=(.u (.agg [dI a,qE ((⟨b,c⟩:Bv).Clauses)]):V)
abbrev jJ (a:Bu):=(.box [dI a.W,dI a.H,dI a.Gens,dI a.DX,dI a.DY,dL a.Syms]:Ob)
abbrev jH (a):=(.u (.one (.fn 113 [.ref (Node.row a) 0])):V)
abbrev jG (a) (b) (c):=(kV (cm .i64 a (ce .i64 2 b)) (cm .i64 c (ce .i64 2 b)) 5001:Ob)
abbrev jF (a) (b) (c) (d) (e) (f):=(.box [.own a,.map b,.own c,.own d,dI 0,.own e,kK f]:Ob)
abbrev jD (a) (b) (c) (d) (e) (f):=(.box [.opq a,.opq b,.own 1000001,.opq c,dI d,.opq e,kK f]:Ob)
abbrev jA (a):=(.u (.one (.fn 69 [.ref (Tree.row a) 0])):V)
abbrev jB (a):=(.u (.one (.fn 71 [.ref (Tree.row a) 0])):V)
abbrev jC (a):=(.u (.one (.fn 43 [.ref (Tree.row a) 0])):V)
abbrev jE (a:Bv):=(.box [dI a.Vars,qE a.Clauses]:Ob)
abbrev jI (a) (b) (c) (d) (e):=(.agg [dI a,dI b,dI c,dI d,dR5 e]:U)
abbrev jL (a) (b) (c) (d):=(.box [dI a,dI b,dI c,dL d]:Ob)
abbrev jM (a) (b) (c) (d) (e):=(qY a 1000003 b c d e 1000002:Ob)
abbrev jN (a):=(.u (.one (dR0 a)):V)
abbrev jO (a:Tree):=(kR a.States a.Hood a.Nodes:U)
abbrev jP:=(kE 1000001 1000002:Ob)
abbrev jR:=(.u (.one (.fn 110 [])):V)
abbrev jS (a) (b):=(qP (ce .i64 a b) 5002:Ob)
abbrev jT:=(.box [.box 1000000 0]:Ob)
abbrev jU (a) (b):=(jK ((⟨a,b⟩:Bv).Vars) a b:V)
abbrev jV (a) (b):=(qI 1000001 1000002 1000003 1000004 a 1000005 b:Ob)
abbrev zQ (a) (b):=(qI 1000001 1000002 1000003 5002 a 1000005 b:Ob)
