/- The types of the program, as lists and numbers. -/
import Derived.Test.YtpeabgakdpojlaaGreatDoorAmSt
import Derived.Test.YtpeabgakdpojlaaGreatDoorAmFz
import Derived.Test.YtpeabgakdpojlaaGreatDoorAmOr
import Derived.Test.YtpeabgakdpojlaaGreatDoorAmSi
import Derived.Test.YtpeabgakdpojlaaGreatDoorAmSu
import Derived.Test.YtpeabgakdpojlaaGreatDoorAmZr
namespace Go.Proofs.YtpeabgakdpojlaaGreatDoor
open Go.AM Go.Proofs
theorem oQ (k:IntKind) (l:A0) (i:Nat) (x:Int):(List.map (rI k) l).set i [L.int k x]=List.map (rI k) (l.set i x):=by rw[List.map_set];rfl
theorem rsetB (l:Ag) (i:Nat) (x:Bool):(List.map rB l).set i [L.bool x]=List.map rB (l.set i x):=by rw[List.map_set];rfl
structure Point where
 X:Int
 Y:Int
 deriving DecidableEq,Inhabited
def Point.row (x:Point):Ak:=[.int .i64 x.X,.int .i64 x.Y]
theorem Point.row_eq (x:Point):x.row=[.int .i64 x.X,.int .i64 x.Y]:=rfl
def Point.key (x:Point):Key:=.ints [x.X,x.Y]
def Point.ints (x:Point):A0:=[x.X,x.Y]
instance:KeyF Point.key:=⟨λa b h=>by unfold Point.key at h;cases a;cases b;injection h with h;simp only[List.cons.injEq,and_true] at h;simp only[Point.mk.injEq];exact h⟩
structure Node where
 Level:Int
 Next:A0
 deriving DecidableEq,Inhabited
def Node.row (x:Node):Ak:=[.int .i64 x.Level,.sl 1 (List.map (rI .i64) x.Next)]
theorem Node.row_eq (x:Node):x.row=[.int .i64 x.Level,.sl 1 (List.map (rI .i64) x.Next)]:=rfl
structure Tree where
 States:Int
 Hood:List Point
 Nodes:List Node
 deriving DecidableEq,Inhabited
def Tree.row (x:Tree):Ak:=[.int .i64 x.States,.sl 2 (List.map Point.row x.Hood),.sl 2 (List.map Node.row x.Nodes)]
theorem Tree.row_eq (x:Tree):x.row=[.int .i64 x.States,.sl 2 (List.map Point.row x.Hood),.sl 2 (List.map Node.row x.Nodes)]:=rfl
structure Grid where
 W:Int
 H:Int
 Edge:Int
 Cells:A0
 deriving DecidableEq,Inhabited
def Grid.row (x:Grid):Ak:=[.int .i64 x.W,.int .i64 x.H,.int .i64 x.Edge,.sl 1 (List.map (rI .i64) x.Cells)]
theorem Grid.row_eq (x:Grid):x.row=[.int .i64 x.W,.int .i64 x.H,.int .i64 x.Edge,.sl 1 (List.map (rI .i64) x.Cells)]:=rfl
structure Bu where
 W:Int
 H:Int
 Gens:Int
 DX:Int
 DY:Int
 Syms:A0
 deriving DecidableEq,Inhabited
def Bu.row (x:Bu):Ak:=[.int .i64 x.W,.int .i64 x.H,.int .i64 x.Gens,.int .i64 x.DX,.int .i64 x.DY,.sl 1 (List.map (rI .i64) x.Syms)]
theorem Bu.row_eq (x:Bu):x.row=[.int .i64 x.W,.int .i64 x.H,.int .i64 x.Gens,.int .i64 x.DX,.int .i64 x.DY,.sl 1 (List.map (rI .i64) x.Syms)]:=rfl
structure Bv where
 Vars:Int
 Clauses:A1
 deriving DecidableEq,Inhabited
def Bv.row (x:Bv):Ak:=[.int .i64 x.Vars,.sl 1 (List.map (rS 1 (rI .i64)) x.Clauses)]
theorem Bv.row_eq (x:Bv):x.row=[.int .i64 x.Vars,.sl 1 (List.map (rS 1 (rI .i64)) x.Clauses)]:=rfl
structure Box where
 X:Int
 Y:Int
 W:Int
 H:Int
 deriving DecidableEq,Inhabited
def Box.row (x:Box):Ak:=[.int .i64 x.X,.int .i64 x.Y,.int .i64 x.W,.int .i64 x.H]
theorem Box.row_eq (x:Box):x.row=[.int .i64 x.X,.int .i64 x.Y,.int .i64 x.W,.int .i64 x.H]:=rfl
def Box.key (x:Box):Key:=.ints [x.X,x.Y,x.W,x.H]
def Box.ints (x:Box):A0:=[x.X,x.Y,x.W,x.H]
instance:KeyF Box.key:=⟨λa b h=>by unfold Box.key at h;cases a;cases b;injection h with h;simp only[List.cons.injEq,and_true] at h;simp only[Box.mk.injEq];exact h⟩
structure Bw where
 constant:Int
 vars:A0
 deriving DecidableEq,Inhabited
def Bw.row (x:Bw):Ak:=[.int .i64 x.constant,pnil 1 (List.map (rI .i64) x.vars)]
theorem Bw.row_eq (x:Bw):x.row=[.int .i64 x.constant,pnil 1 (List.map (rI .i64) x.vars)]:=rfl
structure Bz where
 box:Box
 values:List Bw
 deriving DecidableEq,Inhabited
def Bz.row (x:Bz):Ak:=[.int .i64 x.box.X,.int .i64 x.box.Y,.int .i64 x.box.W,.int .i64 x.box.H,.sl 2 (List.map Bw.row x.values)]
theorem Bz.row_eq (x:Bz):x.row=[.int .i64 x.box.X,.int .i64 x.box.Y,.int .i64 x.box.W,.int .i64 x.box.H,.sl 2 (List.map Bw.row x.values)]:=rfl
structure Ba where
 State:Int
 Vars:A0
 deriving DecidableEq,Inhabited
def Ba.row (x:Ba):Ak:=[.int .i64 x.State,.sl 1 (List.map (rI .i64) x.Vars)]
theorem Ba.row_eq (x:Ba):x.row=[.int .i64 x.State,.sl 1 (List.map (rI .i64) x.Vars)]:=rfl
structure Bb where
 variable_:Int
 trail:Int
 turned:Bool
 deriving DecidableEq,Inhabited
abbrev Ax:=List Node
abbrev Ay:=List (A4×Tree)
abbrev Az:=List Point
abbrev AA:=List Bw
abbrev AB:=List Bb
abbrev AC:=List Ba
abbrev AD:=List Grid
abbrev AE:=Int×Int×Int×Int×AA×Bool×Int×Ay×A1
abbrev AF:=Int->A0->Ax->Ax->Option (Int×A0×Ax)
abbrev AG:=Ax->A0->Int->A0->Ax->Option (A0×Ax)
def Bb.row (x:Bb):Ak:=[.int .i64 x.variable_,.int .i64 x.trail,.bool x.turned]
theorem Bb.row_eq (x:Bb):x.row=[.int .i64 x.variable_,.int .i64 x.trail,.bool x.turned]:=rfl
attribute [simp] Point.row_eq Node.row_eq Tree.row_eq Grid.row_eq Bu.row_eq Bv.row_eq Box.row_eq Bw.row_eq Bz.row_eq Ba.row_eq Bb.row_eq
end Go.Proofs.YtpeabgakdpojlaaGreatDoor
namespace Go.Proofs.YtpeabgakdpojlaaGreatDoor
open Go.AM Go.Proofs
def cmpI (a b:Int):Int:=if a<b then -1 else if a>b then 1 else 0
def jy:A0->A0->Int|[],[]=>0|[],_::_=>-1|_::_,[]=>1|x::a,y::b=>if cmpI x y≠0 then cmpI x y else jy a b
def gC (a b:Grid):Int:=jy a.Cells b.Cells
def fD (a:Grid):Bool:=decide (a.Cells.length<1000000)
def mL (t:Tree) (_x:Bu) (stt:Int):Option (Lp (Int) (Bool ⊕ Unit)):=match stt with|a1=>(bif (ltB a1 (br t.Nodes))then (idx t.Nodes a1).bind λx1=>(bif (gtB (br x1.Next) 20)then some (.out (.inl false)) else some (.next (bE .i64 a1 1))) else some (.out (.inr ())))
def oK (t:Tree) (x:Bu):Ah :=((bif (gtB (br t.Nodes) 150)then some true else (bif (gtB (br t.Hood) 9)then some true else (bif (gtB (br x.Syms) 20)then some true else (bif (gtB x.Gens 3)then some (leB x.Gens 6) else some false))))).bind λa=>(bif a then some false else (bv (mL t x) bL 0).bind λo=>match o with
   |.inl r=>some r|.inr _u=>((bif (ltB x.W 1)then some true else (bif (ltB x.H 1)then some true else (bif (gtB x.W 16)then some true else (bif (gtB x.H 16)then some true else (bif (leB (ce .i64 x.W x.H) 9)then some true else some (gtB (ce .i64 x.W x.H) 16))))))).bind λa1=>some a1)
def nO (a b:Point):Ah :=((bif (ltB a.Y b.Y)then some true else (bif (eqB a.Y b.Y)then some (ltB a.X b.X) else some false))).bind λa1=>some a1
def mB (l:Az) (stt:Int):Option (Lp (Int) (Bool ⊕ Unit)):=match stt with|i=>(bif (ltB i (br l))then (idx l i).bind λx=>((bif (ltB x.X (-2))then some true else (bif (gtB x.X 2)then some true else (bif (ltB x.Y (-2))then some true else (bif (gtB x.Y 2)then some true else (bif (gtB i 0)then (idx l (ck .i64 i 1)).bind λx1=>(nO x1 x).bind λy=>some (eF y) else some false)))))).bind λa1=>(bif a1 then some (.out (.inl false)) else some (.next (bE .i64 i 1))) else some (.out (.inr ())))
def nn (l:Az):Ah :=((bif (ltB (br l) 1)then some true else some (gtB (br l) 25))).bind λa=>(bif a then some false else (bv (mB l) bL 0).bind λo=>match o with
   |.inl r=>some r|.inr _u=>some true)
def lr (t:Tree) (i:Int) (x:Node) (stt:Int):Option (Lp (Int) (Bool ⊕ Unit)):=match stt with|s=>(bif (ltB s t.States)then (idx x.Next s).bind λx1=>(bif (ltB x1 0)then some (.out (.inl false)) else ((bif (eqB x.Level 1)then some (geB x1 t.States) else some false)).bind λa2=>(bif a2 then some (.out (.inl false)) else ((bif (gtB x.Level 1)then (bif (geB x1 i)then some true else (idx t.Nodes x1).bind λx2=>some (neB x2.Level (ck .i64 x.Level 1))) else some false)).bind λa3=>(bif a3 then some (.out (.inl false)) else some (.next (bE .i64 s 1))))) else some (.out (.inr ())))
def lz (t:Tree) (stt:Int):Option (Lp (Int) (Bool ⊕ Unit)):=match stt with
 |i=>(bif (ltB i (br t.Nodes))then (idx t.Nodes i).bind λx=>((bif (ltB x.Level 1)then some true else (bif (gtB x.Level (br t.Hood))then some true else some (neB (br x.Next) t.States)))).bind λa1=>(bif a1 then some (.out (.inl false)) else (bv (lr t i x) bL 0).bind λo=>match o with
     |.inl r=>some (.out (.inl r))|.inr _u=>some (.next (bE .i64 i 1))) else some (.out (.inr ())))
def lM (t:Tree):Ah :=((bif (ltB t.States 2)then some true else (bif (gtB t.States 8)then some true else (nn t.Hood).bind λy=>(bif (eF y)then some true else (bif (ltB (br t.Nodes) 1)then some true else some (gtB (br t.Nodes) 4096)))))).bind λa=>(bif a then some false else (bv (lz t) bL 0).bind λo=>match o with
   |.inl r=>some r|.inr _u=>(idx t.Nodes (ck .i64 (br t.Nodes) 1)).bind λx=>some (eqB x.Level (br t.Hood)))
def tp (w hv edge:Int):Ah :=((bif (geB w 1)then (bif (leB w 256)then (bif (geB hv 1)then (bif (leB hv 256)then (bif (leB (ce .i64 w hv) 4096)then (bif (geB edge 0)then some (leB edge 2) else some false) else some false) else some false) else some false) else some false) else some false)).bind λa=>some a
def mN (gv:Grid) (stt:Int):Option (Lp (Int) (Bool ⊕ Unit)):=match stt with|i=>(bif (ltB i (br gv.Cells))then ((idx gv.Cells i).bind λx=>(bif (ltB x 0)then some true else some (geB x 8))).bind λa1=>(bif a1 then some (.out (.inl false)) else some (.next (bE .i64 i 1))) else some (.out (.inr ())))
def nk (gv:Grid):Ah :=((tp gv.W gv.H gv.Edge).bind λy=>(bif (eF y)then some true else some (neB (br gv.Cells) (ce .i64 gv.W gv.H)))).bind λa=>(bif a then some false else (bv (mN gv) bL 0).bind λo=>match o with
   |.inl r=>some r|.inr _u=>some true)
def sR (n:Int):As :=some (iT n (cy .i64 n))
def lV (l:Az) (stt:Int×Int):Option (Lp (Int×Int) (Int)):=match stt with|(n,i)=>(bif (ltB i (br l))then (idx l i).bind λx=>(sR x.X).bind λy1=>(sR x.Y).bind λy2=>some (.next ((iT (iT n y1) y2),(bE .i64 i 1))) else some (.out n))
def dR (l:Az):As :=(nn l).bind λy=>(bif (eF y)then some 0 else (bv (lV l) bL (0,0)).bind λn=>some n)
def nl (t:Tree) (gv:Grid) (y:Int) (stt:Int×Int):Option (Lp (Int×Int) (Bool ⊕ Unit)):=match stt with|(n,i)=>((bif (ltB i (ce .i64 (bE .i64 gv.W (ce .i64 2 y)) (bE .i64 gv.H (ce .i64 2 y))))then some (leB (ce .i64 (bE .i64 gv.W (ce .i64 2 y)) (bE .i64 gv.H (ce .i64 2 y))) 16) else some false)).bind λa2=>(bif a2 then (bif (gtB (ce .i64 n t.States) 65536)then some (.out (.inl false)) else some (.next ((ce .i64 n t.States),(bE .i64 i 1)))) else some (.out (.inr ())))
def sQ (t:Tree) (gv:Grid):Ah :=((oK t (⟨0,0,0,0,0,[]⟩:Bu)).bind λy=>(bif (eF y)then some true else some (gtB (br gv.Cells) 5000))).bind λa=>(bif a then some false else ((lM t).bind λy=>(bif (eF y)then some true else (nk gv).bind λy1=>some (eF y1))).bind λa1=>(bif a1 then some true else (dR t.Hood).bind λy=>(bv (nl t gv y) bL (1,0)).bind λo=>match o with
    |.inl r=>some r|.inr _u=>some true))
def m_L48_shift:Option (Tree) :=some (⟨2,[(⟨(-1),0⟩:Point)],[(⟨1,[0,1]⟩:Node)]⟩:Tree)
def lj (x:Int):Ah :=some (neB x x)
def fL (x y:Int):As :=(lj x).bind λy1=>(lj y).bind λy2=>(bif y1 then (bif y2 then some 0 else some (-1)) else (bif y2 then some 1 else (bif (ltB x y)then some (-1) else (bif (gtB x y)then some 1 else some 0))))
def ka (vals:A0) (stt:Int):Option (Lp (Int) (Int ⊕ Unit)):=match stt with|a=>(bif (ltB a (br vals))then (idx vals a).bind λx=>(bif (neB x 0)then some (.out (.inl x)) else some (.next (bE .i64 a 1))) else some (.out (.inr ())))
def nN (vals:A0):As :=(bv (ka vals) bL 0).bind λo=>match o with|.inl r=>some r|.inr _u=>some 0
def lq (a b:Point):As :=(fL a.Y b.Y).bind λy=>(fL a.X b.X).bind λy1=>(nN [y,y1]).bind λy2=>some y2
def lY (l:Az) (stt:Int):Option (Lp (Int) (Bool ⊕ Unit)):=match stt with|a1=>(bif (ltB a1 (br l))then (idx l a1).bind λx=>((bif (ltB x.X (-2))then some true else (bif (gtB x.X 2)then some true else (bif (ltB x.Y (-2))then some true else (bif (gtB x.Y 2)then some true else (bif (gtB a1 0)then (idx l (ck .i64 a1 1)).bind λx1=>(lq x1 x).bind λy=>some (geB y 0) else some false)))))).bind λa2=>(bif a2 then some (.out (.inl false)) else some (.next (bE .i64 a1 1))) else some (.out (.inr ())))
def mi (l:Az):Ah :=((bif (ltB (br l) 1)then some true else some (gtB (br l) 25))).bind λa=>(bif a then some false else (bv (lY l) bL 0).bind λo=>match o with
   |.inl r=>some r|.inr _u=>some true)
def kj (t:Tree) (a1:Int) (x:Node) (stt:Int):Option (Lp (Int) (Bool ⊕ Unit)):=match stt with|a3=>(bif (ltB a3 (br x.Next))then (idx x.Next a3).bind λx1=>((bif (ltB x1 0)then some true else (bif (eqB x.Level 1)then (bif (geB x1 t.States)then some true else (bif (gtB x.Level 1)then (bif (geB x1 a1)then some true else (idx t.Nodes x1).bind λx2=>some (neB x2.Level (ck .i64 x.Level 1))) else some false)) else (bif (gtB x.Level 1)then (bif (geB x1 a1)then some true else (idx t.Nodes x1).bind λx2=>some (neB x2.Level (ck .i64 x.Level 1))) else some false)))).bind λa4=>(bif a4 then some (.out (.inl false)) else some (.next (bE .i64 a3 1))) else some (.out (.inr ())))
def k7 (t:Tree) (stt:Int):Option (Lp (Int) (Bool ⊕ Unit)):=match stt with
 |a1=>(bif (ltB a1 (br t.Nodes))then (idx t.Nodes a1).bind λx=>((bif (ltB x.Level 1)then some true else (bif (gtB x.Level (br t.Hood))then some true else some (neB (br x.Next) t.States)))).bind λa2=>(bif a2 then some (.out (.inl false)) else (bv (kj t a1 x) bL 0).bind λo=>match o with
     |.inl r=>some (.out (.inl r))|.inr _u=>some (.next (bE .i64 a1 1))) else some (.out (.inr ())))
def hY (t:Tree):Ah :=((bif (ltB t.States 2)then some true else (bif (gtB t.States 8)then some true else (mi t.Hood).bind λy=>(bif (eF y)then some true else (bif (ltB (br t.Nodes) 1)then some true else (bif (gtB (br t.Nodes) 4096)then some true else (idx t.Nodes (ck .i64 (br t.Nodes) 1)).bind λx=>some (neB x.Level (br t.Hood)))))))).bind λa=>(bif a then some false else (bv (k7 t) bL 0).bind λo=>match o with
   |.inl r=>some r|.inr _u=>some true)
def pA (w hv edge:Int):Ah :=((bif (geB w 1)then (bif (leB w 256)then (bif (geB hv 1)then (bif (leB hv 256)then (bif (leB (ce .i64 w hv) 4096)then (bif (geB edge 0)then some (leB edge 2) else some false) else some false) else some false) else some false) else some false) else some false)).bind λa=>some a
def nw (s:Int):Ah :=((bif (ltB s 0)then some true else some (geB s 8))).bind λa=>some a
def cq (s:A0) (stt:Int):Option (Lp (Int) (Int ⊕ Unit)):=match stt with|a=>(bif (ltB a (br s))then (idx s a).bind λx=>(nw x).bind λy=>(bif y then some (.out (.inl a)) else some (.next (bE .i64 a 1))) else some (.out (.inr ())))
def d8 (s:A0):As :=(bv (cq s) bL 0).bind λo=>match o with|.inl r=>some r|.inr _u=>some (-1)
def cD (s:A0):Ah :=(d8 s).bind λy=>some (geB y 0)
def ma (gv:Grid):Ah :=((pA gv.W gv.H gv.Edge).bind λy=>(bif y then (bif (eqB (br gv.Cells) (ce .i64 gv.W gv.H))then (cD gv.Cells).bind λy1=>some (eF y1) else some false) else some false)).bind λa=>some a
def iL (s:Int) (a:Tree):Ah :=some (geB s a.States)
def bK (s:A0) (cv:Tree) (stt:Int):Option (Lp (Int) (Int ⊕ Unit)):=match stt with|a=>(bif (ltB a (br s))then (idx s a).bind λx=>(iL x cv).bind λy=>(bif y then some (.out (.inl a)) else some (.next (bE .i64 a 1))) else some (.out (.inr ())))
def cC (s:A0) (cv:Tree):As :=(bv (bK s cv) bL 0).bind λo=>match o with|.inl r=>some r|.inr _u=>some (-1)
def bU (s:A0) (cv:Tree):Ah :=(cC s cv).bind λy=>some (geB y 0)
def fg (l:Az) (stt:Int×Int):Option (Lp (Int×Int) (Int)):=match stt with|(r_,a)=>(bif (ltB a (br l))then (idx l a).bind λx=>some (.next ((iT (iT (iT (iT r_ x.X) (cy .i64 x.X)) x.Y) (cy .i64 x.Y)),(bE .i64 a 1))) else some (.out r_))
def df (l:Az):As :=((mi l).bind λy=>(bif y then (bv (fg l) bL (0,0)).bind λr_=>some r_ else some 0)).bind λr_=>some r_
def cn (l:A0):Option A0:=dq 8 [] l
def lH (_x:Int) (next:A0):Option A0 :=some next
def dt (l:A0) (n base:Int):Option A0:=appUM l n base
def eL (i base:Int):Option A0 :=((bif (ltB i 0)then (dq 1 [] [45]).bind λ_l=>some ((cy .u64 (nS .u64 i)),([]++[45])) else some ((nS .u64 i),[]))).bind λ(u,dst)=>(dt dst u base).bind λy=>some y
def f9 (i base:Int):Option A0 :=(eL i base).bind λy=>some y
def eK (dst:A0) (i base:Int):Option A0 :=((bif (ltB i 0)then (dq 1 dst [45]).bind λ_l=>some ((cy .u64 (nS .u64 i)),(dst++[45])) else some ((nS .u64 i),dst))).bind λ(u,dst1)=>(dt dst1 u base).bind λy=>some y
def ea (dst:A0) (i base:Int):Option A0 :=(eK dst i base).bind λy=>some y
def fV (_aA:Ax) (_au:Af) (_level:Int) (next:A0) (stt:Int×A0):Option (Lp Av (A0)):=match stt with|(a,keyv)=>(bif (ltB a (br next))then (idx next a).bind λx=>(dq 1 keyv [32]).bind λ_l=>(ea (keyv++[32]) x 10).bind λy1=>some (.next ((bE .i64 a 1),y1)) else some (.out keyv))
def ez (aA:Ax) (au:Af) (level:Int) (next:A0):Option (Int×Af×Ax) :=(f9 level 10).bind λy=>(bv (fV aA au level next) bL (0,y)).bind λkeyv=>(kckS (ofBytes keyv)).bind λ_u=>(bif (db au (ofBytes keyv))then some ((eC au (ofBytes keyv) 0),au,aA) else (dq 32 aA [(⟨level,next⟩:Node)]).bind λ_l=>some ((ck .i64 ((br aA)+1) 1),(fT au (ofBytes keyv) (ck .i64 ((br aA)+1) 1)),(aA++[(⟨level,next⟩:Node)])))
def cN (l:Az):Option Az:=dq 16 [] l
def cu (rcv:AF) (_k:Int) (a1:Ax) (x1:Node) (y:A0) (stt:Int×A0×Ax×A0):Option (Lp (Int×A0×Ax×A0) ((A0×Ax×A0))):=match stt with|(a2,l,l2,l1)=>(bif (ltB a2 (br y))then ((idx l a2).bind λx2=>(bif (gtB x1.Level 1)then (rcv x2 l1 a1 l2).bind λy1=>some ((l.set a2.toNat y1.1),y1.2.1,y1.2.2) else some (l,l1,l2))).bind λ(l3,l4,l5)=>some (.next ((bE .i64 a2 1),l3,l5,l4)) else some (.out (l,l2,l1)))
def cB (rcv:AF) (k:Int) (a:A0) (a1 cv:Ax):Option (Int×A0×Ax) :=(idx a k).bind λx=>(bif (gtB x 0)then some ((ck .i64 x 1),a,cv) else (idx a1 k).bind λx1=>(cn x1.Next).bind λy=>(bv (cu rcv k a1 x1 y) bL (0,y,cv,a)).bind λ(l,l1,l2)=>(dq 32 l1 [(⟨x1.Level,l⟩:Node)]).bind λ_l3=>(idx l2 k).bind λ_x2=>some ((ck .i64 ((br l1)+1) 1),(l2.set k.toNat ((br l1)+1)),(l1++[(⟨x1.Level,l⟩:Node)])))
def iC (k:Int) (a:A0) (a1 cv:Ax):Option (Int×A0×Ax):=rq cB (λ_ _ _ _=>none) recF k a a1 cv
def iq (nodes:Ax) (root:Int):Option Ax :=(mkL 8 (br nodes) (br nodes) 0).bind λ_l=>(iC root (List.replicate (br nodes).toNat 0) nodes []).bind λy=>some y.2.2
def bV (_t:Tree) (_a:Int) (_mp:Af) (_l:Ax) (to_:A0) (x:Node) (y:A0) (stt:Int×A0):Option (Lp Av (A0)):=match stt with|(a1,next)=>(bif (ltB a1 (br y))then ((idx next a1).bind λx1=>(bif (gtB x.Level 1)then (idx to_ x1).bind λx2=>some (next.set a1.toNat x2) else some next)).bind λaS=>some (.next ((bE .i64 a1 1),aS)) else some (.out next))
def cw (t:Tree) (stt:Int×Af×Ax×A0):Option (Lp (Int×Af×Ax×A0) ((Af×Ax×A0))):=match stt with|(a,mp,l,to_)=>(bif (ltB a (br t.Nodes))then (idx t.Nodes a).bind λx=>(cn x.Next).bind λy=>(bv (bV t a mp l to_ x y) bL (0,y)).bind λnext=>(lH x.Level next).bind λy1=>(ez l mp x.Level y1).bind λy2=>(dq 8 to_ [y2.1]).bind λ_l1=>some (.next ((bE .i64 a 1),y2.2.1,y2.2.2,(to_++[y2.1]))) else some (.out (mp,l,to_)))
def dd (t:Tree):Option (Tree) :=(bv (cw t) bL (0,[],[],[])).bind λ(_mp,l,to_)=>(cN t.Hood).bind λy=>(idx to_ (ck .i64 (br to_) 1)).bind λx=>(iq l x).bind λy1=>some (⟨t.States,y,y1⟩:Tree)
def iY (t:Tree):Option (Tree) :=(hY t).bind λy=>(bif (eF y)then some (⟨0,[],[]⟩:Tree) else (dd t).bind λy1=>some y1)
def kr (states:Int):As :=(bif (eqB states 2)then some 1 else ((bif (eqB states 3)then some (eqB states 3) else some (eqB states 4))).bind λa=>(bif a then some 2 else ((bif (gtB states 4)then some (leB states 8) else some false)).bind λa1=>(bif a1 then some 3 else some 0)))
def lO (t:Tree):Option (Int×Az×Ax×Int) :=(iY t).bind λy=>(kr t.States).bind λy1=>some (y.States,y.Hood,y.Nodes,y1)
def dC (_ag:A1) (_aa:Int) (_ae:Az) (_ab:Ax) (aq:Int) (_ak:Ay) (stt:Int×A0×Int):Option (Lp (Int×A0×Int) ((A0×Int))):=match stt with|(a,l,aj)=>(bif (ltB a aq)then (dq 8 l [(bE .i64 aj 1)]).bind λ_l1=>some (.next ((bE .i64 a 1),(l++[(bE .i64 aj 1)]),(bE .i64 aj 1))) else some (.out (l,aj)))
def e7 (ah:Int) (ag:A1) (aa:Int) (ae:Az) (ab:Ax) (aq:Int) (ak:Ay):Option (A0×Int) :=(bv (dC ag aa ae ab aq ak) bL (0,[],ah)).bind λ(l,aj)=>some (l,aj)
def gh (cv:Int) (y:A0) (stt:Int×A0):Option (Lp Av (A0)):=match stt with|(a,l)=>(bif (ltB a (br y))then ((ishr .i64 cv a).bind λn=>(bif (eqB (iand .i64 n 1) 1)then (idx l a).bind λx=>some (l.set a.toNat (cy .i64 x)) else some l)).bind λl1=>some (.next ((bE .i64 a 1),l1)) else some (.out l))
def iy (vars:A0) (cv:Int):Option A0 :=(cn vars).bind λy=>(bv (gh cv y) bL (0,y)).bind λl=>some l
def dK (_ah:Int) (ag:A1) (_aa:Int) (_ae:Az) (_ab:Ax) (_aq:Int) (_ak:Ay) (l:A0):Option (Unit) :=(dq 24 ag [l]).bind λ_l1=>some ()
def dO (ag:A1) (aa:Int) (ae:Az) (ab:Ax) (aq:Int) (ak:Ay) (box:Box) (stt:Int×AA×Int):Option (Lp (Int×AA×Int) ((AA×Int))):=match stt with|(a,l,aj)=>(bif (ltB a (ce .i64 box.W box.H))then (e7 aj ag aa ae ab aq ak).bind λy=>(neE y.1).bind λ_u=>(dq 32 l [(⟨0,y.1⟩:Bw)]).bind λ_l1=>some (.next ((bE .i64 a 1),(l++[(⟨0,y.1⟩:Bw)]),y.2)) else some (.out (l,aj)))
def da (aa:Int) (ae:Az) (ab:Ax) (aq:Int) (ak:Ay) (_box:Box) (_l:AA) (aj _a:Int) (x:Bw) (stt:Int×A1):Option (Lp (Int×A1) (A1)):=match stt with|(cv,l2)=>(ishl .i64 1 aq).bind λn=>(bif (ltB cv n)then (neE x.vars).bind λ_u=>(iy x.vars cv).bind λy=>(dK aj l2 aa ae ab aq ak y).bind λ_y1=>some (.next ((bE .i64 cv 1),(l2++[y]))) else some (.out l2))
def dP (aa:Int) (ae:Az) (ab:Ax) (aq:Int) (ak:Ay) (box:Box) (l:AA) (aj:Int) (stt:Int×A1):Option (Lp (Int×A1) (A1)):=match stt with|(a,l1)=>(bif (ltB a (br l))then (idx l a).bind λx=>(bv (da aa ae ab aq ak box l aj a x) bL (aa,l1)).bind λl2=>some (.next ((bE .i64 a 1),l2)) else some (.out l1))
def fv (ah:Int) (ag:A1) (aa:Int) (ae:Az) (ab:Ax) (aq:Int) (ak:Ay) (box:Box):Option (AA×A1×Int) :=(bv (dO ag aa ae ab aq ak box) bL (0,[],ah)).bind λ(l,aj)=>(bv (dP aa ae ab aq ak box l aj) bL (0,ag)).bind λl1=>some (l,l1,aj)
def jh (f:Bz) (x y:Int):Option (Bw) :=((bif (ltB (ck .i64 x f.box.X) 0)then some true else (bif (geB (ck .i64 x f.box.X) f.box.W)then some true else (bif (ltB (ck .i64 y f.box.Y) 0)then some true else some (geB (ck .i64 y f.box.Y) f.box.H))))).bind λa=>(bif a then some (⟨0,[]⟩:Bw) else (idx f.values (bE .i64 (ce .i64 (ck .i64 y f.box.Y) f.box.W) (ck .i64 x f.box.X))).bind λx1=>some x1)
def jt (next:A0) (_aU:Int) (_b9:Az) (_aZ:Ax) (_a a1:Int) (stt:Int×A0):Option (Lp Av (A0)):=match stt with|(a2,aS)=>(bif (ltB a2 (br next))then ((bif (neB a2 a1)then (idx aS a1).bind λx=>(idx aS a2).bind λ_x1=>some (aS.set a2.toNat x) else some aS)).bind λnext2=>some (.next ((bE .i64 a2 1),next2)) else some (.out aS))
def kw (level:Int) (next:A0) (aU:Int) (b9:Az) (aZ:Ax) (a a1:Int):Option A0 :=((bif (eqB level (ck .i64 (br b9) a))then (bv (jt next aU b9 aZ a a1) bL (0,next)).bind λaS=>some aS else some next)).bind λaS=>some aS
def gZ (_aA:Ax) (_au:Af) (_level:Int) (next:A0) (stt:Int×A0):Option (Lp Av (A0)):=match stt with|(a,keyv)=>(bif (ltB a (br next))then (idx next a).bind λx=>(dq 1 keyv [32]).bind λ_l=>(ea (keyv++[32]) x 10).bind λy1=>some (.next ((bE .i64 a 1),y1)) else some (.out keyv))
def iR (aA:Ax) (au:Af) (level:Int) (next:A0):Option (Int×Af×Ax) :=(f9 level 10).bind λy=>(bv (gZ aA au level next) bL (0,y)).bind λkeyv=>(kckS (ofBytes keyv)).bind λ_u=>(bif (db au (ofBytes keyv))then some ((eC au (ofBytes keyv) 0),au,aA) else (dq 32 aA [(⟨level,next⟩:Node)]).bind λ_l=>some ((ck .i64 ((br aA)+1) 1),(fT au (ofBytes keyv) (ck .i64 ((br aA)+1) 1)),(aA++[(⟨level,next⟩:Node)])))
def eP (_t:Tree) (_aG:Int) (_aV:Az) (_aK:Ax) (_cv _cv1 _a:Int) (_mp:Af) (_l:Ax) (to_:A0) (x:Node) (y:A0) (stt:Int×A0):Option (Lp Av (A0)):=match stt with|(a1,next)=>(bif (ltB a1 (br y))then ((idx next a1).bind λx1=>(bif (gtB x.Level 1)then (idx to_ x1).bind λx2=>some (next.set a1.toNat x2) else some next)).bind λaS=>some (.next ((bE .i64 a1 1),aS)) else some (.out next))
def eV (t:Tree) (aG:Int) (aV:Az) (aK:Ax) (cv cv1:Int) (stt:Int×Af×Ax×A0):Option (Lp (Int×Af×Ax×A0) ((Af×Ax×A0))):=match stt with|(a,mp,l,to_)=>(bif (ltB a (br t.Nodes))then (idx t.Nodes a).bind λx=>(cn x.Next).bind λy=>(bv (eP t aG aV aK cv cv1 a mp l to_ x y) bL (0,y)).bind λnext=>(kw x.Level next aG aV aK cv cv1).bind λy1=>(iR l mp x.Level y1).bind λy2=>(dq 8 to_ [y2.1]).bind λ_l1=>some (.next ((bE .i64 a 1),y2.2.1,y2.2.2,(to_++[y2.1]))) else some (.out (mp,l,to_)))
def ff (t:Tree) (aG:Int) (aV:Az) (aK:Ax) (cv cv1:Int):Option (Az×Ax) :=(bv (eV t aG aV aK cv cv1) bL (0,[],[],[])).bind λ(_mp,l,to_)=>(cN t.Hood).bind λy=>(idx to_ (ck .i64 (br to_) 1)).bind λx=>(iq l x).bind λy1=>some (y,y1)
def tP (t:Tree) (k s:Int):Option (Tree×Int) :=(hY t).bind λy=>(bif (eF y)then some ((⟨0,[],[]⟩:Tree),11) else ((bif (ltB k 0)then some true else some (geB k (br t.Hood)))).bind λa=>(bif a then some ((⟨0,[],[]⟩:Tree),2) else ((bif (ltB s 0)then some true else some (geB s t.States))).bind λa1=>(bif a1 then some ((⟨0,[],[]⟩:Tree),10) else (ff t t.States t.Hood t.Nodes k s).bind λy1=>some ((⟨t.States,y1.1,y1.2⟩:Tree),0))))
def gM (_ah:Int) (_ag:A1) (_aa:Int) (_ae:Az) (_ab:Ax) (_aq:Int) (_ak:Ay) (in_:AA) (stt:Int×A0):Option (Lp Av (A0)):=match stt with|(a,keyv)=>(bif (ltB a (br in_))then (idx in_ a).bind λx=>((bif (eF (isE x.vars))then some 255 else some (nS .u8 x.constant))).bind λk=>(dq 1 keyv [k]).bind λ_l=>some (.next ((bE .i64 a 1),(keyv++[k]))) else some (.out keyv))
def gP (_ah:Int) (_ag:A1) (_aa:Int) (_ae:Az) (_ab:Ax) (_aq:Int) (_ak:Ay) (in_:AA) (_keyv:A0) (_u:Unit) (stt:Int×Int×Az×Ax):Option (Lp (Int×Int×Az×Ax) ((Int×Az×Ax))):=match stt with|(a,aF,aT,aI)=>(bif (ltB a (br in_))then ((idx in_ a).bind λx=>(bif (isE x.vars)then (tP (⟨aF,aT,aI⟩:Tree) a x.constant).bind λy=>some (y.1.States,y.1.Hood,y.1.Nodes) else some (aF,aT,aI))).bind λ(bm,tHood1,tNodes1)=>some (.next ((bE .i64 a 1),bm,tHood1,tNodes1)) else some (.out (aF,aT,aI)))
def fG (ah:Int) (ag:A1) (aa:Int) (ae:Az) (ab:Ax) (aq:Int) (ak:Ay) (in_:AA):Option (Int×Az×Ax×Ay) :=(bv (gM ah ag aa ae ab aq ak in_) bL (0,[])).bind λkeyv=>(kckS (ofBytes keyv)).bind λu=>(bif (db ak (ofBytes keyv))then (gp ak (ofBytes keyv)).bind λv=>some (v.States,v.Hood,v.Nodes,ak) else (bv (gP ah ag aa ae ab aq ak in_ keyv u) bL (0,aa,ae,ab)).bind λ(aF,aT,aI)=>some (aF,aT,aI,(fT ak (ofBytes keyv) (⟨aF,aT,aI⟩:Tree))))
def gB (n:Int) (a:Node):Ah :=(idx a.Next 0).bind λx=>some (neB n x)
def bY (s:A0) (cv:Node) (stt:Int):Option (Lp (Int) (Int ⊕ Unit)):=match stt with|a=>(bif (ltB a (br s))then (idx s a).bind λx=>(gB x cv).bind λy=>(bif y then some (.out (.inl a)) else some (.next (bE .i64 a 1))) else some (.out (.inr ())))
def cK (s:A0) (cv:Node):As :=(bv (bY s cv) bL 0).bind λo=>match o with|.inl r=>some r|.inr _u=>some (-1)
def cj (s:A0) (cv:Node):Ah :=(cK s cv).bind λy=>some (geB y 0)
def cM (s bl:Int) (aNext:A0) (a:AA):Option Av :=(bif (eqB bl 1)then (idx aNext s).bind λx=>some (x,[]) else (idx aNext s).bind λx=>(idx a x).bind λx1=>some (x1.constant,x1.vars))
def eh (_ah:Int) (ag:A1) (_aa:Int) (_ae:Az) (_ab:Ax) (_aq:Int) (_ak:Ay) (l:A0):Option (Unit) :=(dq 24 ag [l]).bind λ_l1=>some ()
def cA (l:A0) (aX:Int) (aQ:A1) (b7:Int) (bc:Az) (b8:Ax) (abits:Int) (bj:Ay) (a:A0):Option A1 :=(cn a).bind λy=>(dq 8 y l).bind λ_l1=>(eh aX aQ b7 bc b8 abits bj (y++l)).bind λ_y1=>some (aQ++[(y++l)])
def dU (ah aa:Int) (ae:Az) (ab:Ax) (aq:Int) (ak:Ay) (aM own:A0) (v:Bw) (stt:Int×A1):Option (Lp (Int×A1) (A1)):=match stt with|(a,l)=>(bif (ltB a (br own))then ((idx own a).bind λx=>(bif (eF (isE v.vars))then (neE v.vars).bind λ_u=>(idx v.vars a).bind λx1=>(cA [(cy .i64 x),x1] ah l aa ae ab aq ak aM).bind λy=>(cA [x,(cy .i64 x1)] ah y aa ae ab aq ak aM).bind λy1=>some y1 else (ishr .i64 v.constant a).bind λn=>(bif (eqB (iand .i64 n 1) 1)then (cA [x] ah l aa ae ab aq ak aM).bind λy=>some y else (cA [(cy .i64 x)] ah l aa ae ab aq ak aM).bind λy=>some y))).bind λl1=>some (.next ((bE .i64 a 1),l1)) else some (.out l))
def eB (ah:Int) (ag:A1) (aa:Int) (ae:Az) (ab:Ax) (aq:Int) (ak:Ay) (aM own:A0) (v:Bw):Option A1 :=(bv (dU ah aa ae ab aq ak aM own v) bL (0,ag)).bind λl=>some l
def dj (aa:Int) (ae:Az) (ab:Ax) (aq:Int) (ak:Ay) (_t:Tree) (_in_:AA) (a:Int) (l1:AA) (x:Node) (x1:Bw) (y1:A0×Int) (x2:Bw) (_u:Unit) (stt:Int×A1):Option (Lp (Int×A1) (A1)):=match stt with|(a1,l3)=>(bif (ltB a1 (br x.Next))then (neE x1.vars).bind λ_u1=>(iy x1.vars a1).bind λy2=>(cM a1 x.Level x.Next (l1.set a.toNat (⟨x2.constant,y1.1⟩:Bw))).bind λy3=>(eB y1.2 l3 aa ae ab aq ak y2 y1.1 (⟨y3.1,y3.2⟩:Bw)).bind λy4=>some (.next ((bE .i64 a1 1),y4)) else some (.out l3))
def dm (aa:Int) (ae:Az) (ab:Ax) (aq:Int) (ak:Ay) (t:Tree) (in_:AA) (stt:Int×AA×A1×Int):Option (Lp (Int×AA×A1×Int) ((AA×A1×Int))):=match stt with|(a,l1,l2,aj)=>(bif (ltB a (br t.Nodes))then (idx t.Nodes a).bind λx=>(cj x.Next x).bind λy=>(bif (eF y)then (cM 0 x.Level x.Next l1).bind λy1=>(idx l1 a).bind λ_x1=>some (.next ((bE .i64 a 1),(l1.set a.toNat (⟨y1.1,y1.2⟩:Bw)),l2,aj)) else (idx in_ (ck .i64 (br t.Hood) x.Level)).bind λx1=>(e7 aj l2 aa ae ab aq ak).bind λy1=>(idx l1 a).bind λx2=>(neE y1.1).bind λu=>(bv (dj aa ae ab aq ak t in_ a l1 x x1 y1 x2 u) bL (0,l2)).bind λl3=>some (.next ((bE .i64 a 1),(l1.set a.toNat (⟨x2.constant,y1.1⟩:Bw)),l3,y1.2))) else some (.out (l1,l2,aj)))
def eX (ah:Int) (ag:A1) (aa:Int) (ae:Az) (ab:Ax) (aq:Int) (ak:Ay) (t:Tree) (in_:AA):Option (Int×A0×A1×Int) :=(mkL 32 (br t.Nodes) (br t.Nodes) (⟨0,[]⟩:Bw)).bind λ_l=>(bv (dm aa ae ab aq ak t in_) bL (0,(List.replicate (br t.Nodes).toNat (⟨0,[]⟩:Bw)),ag,ah)).bind λ(l1,l2,aj)=>(idx l1 (ck .i64 (br l1) 1)).bind λx=>some (x.constant,x.vars,l2,aj)
def dZ (ah:Int) (ag:A1) (_aa:Int) (_ae:Az) (_ab:Ax) (_aq:Int) (_ak:Ay):Ah :=((bif (gtB ah 65536)then some true else some (gtB (br ag) 262144))).bind λa=>some a
def d9 (_aa:Int) (ae:Az) (_ab:Ax) (_aq:Int) (f:Bz) (_box:Box) (_fixed:Bool) (y x:Int) (_l2:AA) (_l3:A1) (_ax:Int) (_mp1:Ay) (stt:Int×AA):Option (Lp (Int×AA) (AA)):=match stt with|(a,in_)=>(bif (ltB a (br ae))then (idx ae a).bind λx1=>(jh f (bE .i64 x x1.X) (bE .i64 y x1.Y)).bind λy1=>(dq 32 in_ [y1]).bind λ_l4=>some (.next ((bE .i64 a 1),(in_++[y1]))) else some (.out in_))
def cV (aa:Int) (ae:Az) (ab:Ax) (aq:Int) (f:Bz) (box:Box) (fixed:Bool) (y:Int) (stt:Int×AA×A1×Int×Ay):Option (Lp (Int×AA×A1×Int×Ay) (AE ⊕ (AA×A1×Int×Ay))):=match stt with|(x,l2,l3,ax,mp1)=>(bif (ltB x (bE .i64 box.X box.W))then (bv (d9 aa ae ab aq f box fixed y x l2 l3 ax mp1) bL (0,[])).bind λin_=>((bif fixed then (fG ax l3 aa ae ab aq mp1 in_).bind λy1=>some (y1.1,y1.2.1,y1.2.2.1,y1.2.2.2) else some (aa,ae,ab,mp1))).bind λ(aF,aT,aI,mp2)=>(eX ax l3 aa ae ab aq mp2 (⟨aF,aT,aI⟩:Tree) in_).bind λy1=>(dq 32 l2 [(⟨y1.1,y1.2.1⟩:Bw)]).bind λ_l4=>(dZ y1.2.2.2 y1.2.2.1 aa ae ab aq mp2).bind λy2=>(bif y2 then some (.out (.inl (0,0,0,0,[],false,y1.2.2.2,mp2,y1.2.2.1))) else some (.next ((bE .i64 x 1),(l2++[(⟨y1.1,y1.2.1⟩:Bw)]),y1.2.2.1,y1.2.2.2,mp2))) else some (.out (.inr (l2,l3,ax,mp1))))
def dN (aa:Int) (ae:Az) (ab:Ax) (aq:Int) (f:Bz) (box:Box) (fixed:Bool) (stt:Int×AA×A1×Int×Ay):Option (Lp (Int×AA×A1×Int×Ay) (AE ⊕ (AA×A1×Int×Ay))):=match stt with
 |(y,l,l1,aj,mp)=>(bif (ltB y (bE .i64 box.Y box.H))then (bv (cV aa ae ab aq f box fixed y) bL (box.X,l,l1,aj,mp)).bind λo=>match o with
    |.inl r=>some (.out (.inl r))|.inr (l2,l3,ax,mp1)=>some (.next ((bE .i64 y 1),l2,l3,ax,mp1)) else some (.out (.inr (l,l1,aj,mp))))
def fx (ah:Int) (ag:A1) (aa:Int) (ae:Az) (ab:Ax) (aq:Int) (ak:Ay) (f:Bz) (box:Box) (fixed:Bool):Option AE :=(bv (dN aa ae ab aq f box fixed) bL (box.Y,[],ag,ah,ak)).bind λo=>match o with|.inl r=>some r|.inr (l,l1,aj,mp)=>some (box.X,box.Y,box.W,box.H,l,true,aj,mp,l1)
def fb (ah aa:Int) (ae:Az) (ab:Ax) (aq:Int) (ak:Ay) (vars:A0) (cv:Int) (stt:Int×A1):Option (Lp (Int×A1) (A1)):=match stt with|(a,l)=>(bif (ltB a (br vars))then (idx vars a).bind λx=>((ishr .i64 cv a).bind λn=>(bif (eqB (iand .i64 n 1) 0)then some (cy .i64 x) else some x)).bind λv=>(dK ah l aa ae ab aq ak [v]).bind λ_y=>some (.next ((bE .i64 a 1),(l++[[v]]))) else some (.out l))
def fI (ah:Int) (ag:A1) (aa:Int) (ae:Az) (ab:Ax) (aq:Int) (ak:Ay) (vars:A0) (cv:Int):Option A1 :=(bv (fb ah aa ae ab aq ak vars cv) bL (0,ag)).bind λl=>some l
def fA (_ah:Int) (ag:A1) (_aa:Int) (_ae:Az) (_ab:Ax) (_aq:Int) (_ak:Ay):Option (Unit) :=(dq 24 ag [[]]).bind λ_l=>some ()
def fk (gv:Grid) (y3:Int) (y4:Int×Az×Ax×Int) (y5:AA×A1×Int) (stt:Int×Ay×Int×A1):Option (Lp (Int×Ay×Int×A1) ((Bv×Int×Int) ⊕ (Ay×Int×A1))):=match stt with|(a,mp,ah,l)=>(bif (ltB a (br gv.Cells))then (idx gv.Cells a).bind λx=>(irem a gv.W).bind λn=>(iquo .i64 a gv.W).bind λn1=>(fx ah l y4.1 y4.2.1 y4.2.2.1 y4.2.2.2 mp (⟨⟨(⟨(cy .i64 y3),(cy .i64 y3),(bE .i64 gv.W (ce .i64 2 y3)),(bE .i64 gv.H (ce .i64 2 y3))⟩:Box).X,(⟨(cy .i64 y3),(cy .i64 y3),(bE .i64 gv.W (ce .i64 2 y3)),(bE .i64 gv.H (ce .i64 2 y3))⟩:Box).Y,(⟨(cy .i64 y3),(cy .i64 y3),(bE .i64 gv.W (ce .i64 2 y3)),(bE .i64 gv.H (ce .i64 2 y3))⟩:Box).W,(⟨(cy .i64 y3),(cy .i64 y3),(bE .i64 gv.W (ce .i64 2 y3)),(bE .i64 gv.H (ce .i64 2 y3))⟩:Box).H⟩,y5.1⟩:Bz) (⟨n,n1,1,1⟩:Box) false).bind λy6=>(bif (eF y6.2.2.2.2.2.1)then some (.out (.inl ((⟨0,[]⟩:Bv),0,6))) else (idx y6.2.2.2.2.1 0).bind λx1=>(bif (eF (isE x1.vars))then (neE x1.vars).bind λ_u=>(fI y6.2.2.2.2.2.2.1 y6.2.2.2.2.2.2.2.2 y4.1 y4.2.1 y4.2.2.1 y4.2.2.2 y6.2.2.2.2.2.2.2.1 x1.vars x).bind λy7=>some (.next ((bE .i64 a 1),y6.2.2.2.2.2.2.2.1,y6.2.2.2.2.2.2.1,y7)) else (bif (neB x1.constant x)then (fA y6.2.2.2.2.2.2.1 y6.2.2.2.2.2.2.2.2 y4.1 y4.2.1 y4.2.2.1 y4.2.2.2 y6.2.2.2.2.2.2.2.1).bind λ_y7=>some (.next ((bE .i64 a 1),y6.2.2.2.2.2.2.2.1,y6.2.2.2.2.2.2.1,(y6.2.2.2.2.2.2.2.2++[[]]))) else some (.next ((bE .i64 a 1),y6.2.2.2.2.2.2.2.1,y6.2.2.2.2.2.2.1,y6.2.2.2.2.2.2.2.2))))) else some (.out (.inr (mp,ah,l))))
def eO (t:Tree) (gv:Grid):Option (Bv×Int×Int) :=(hY t).bind λy=>(bif (eF y)then some ((⟨0,[]⟩:Bv),0,11) else (ma gv).bind λy1=>(bif (eF y1)then some ((⟨0,[]⟩:Bv),0,2) else (bU gv.Cells t).bind λy2=>(bif y2 then some ((⟨0,[]⟩:Bv),0,10) else (df t.Hood).bind λy3=>(bif (gtB (ce .i64 (bE .i64 gv.W (ce .i64 2 y3)) (bE .i64 gv.H (ce .i64 2 y3))) 16)then some ((⟨0,[]⟩:Bv),0,6) else (lO t).bind λy4=>(fv 0 [] y4.1 y4.2.1 y4.2.2.1 y4.2.2.2 [] (⟨(cy .i64 y3),(cy .i64 y3),(bE .i64 gv.W (ce .i64 2 y3)),(bE .i64 gv.H (ce .i64 2 y3))⟩:Box)).bind λy5=>(bv (fk gv y3 y4 y5) bL (0,[],y5.2.2,y5.2.1)).bind λo=>match o with
      |.inl r=>some r|.inr (mp,ah,l)=>(dZ ah l y4.1 y4.2.1 y4.2.2.1 y4.2.2.2 mp).bind λy6=>(bif y6 then some ((⟨0,[]⟩:Bv),0,6) else some ((⟨ah,l⟩:Bv),y5.2.2,0))))))
def fN (_f:Bv) (n bits:Int) (stt:Int×A0):Option (Lp Av (A0)):=match stt with|(a,vars)=>(bif (ltB a (br (List.replicate n.toNat ())))then (iquo .i64 a bits).bind λn1=>(irem a bits).bind λn2=>(idx vars a).bind λ_x=>some (.next ((bE .i64 a 1),(vars.set a.toNat (ck .i64 (ck .i64 (bE .i64 (ce .i64 n1 bits) bits) 1) n2)))) else some (.out vars))
def fO (_f:Bv) (n:Int) (vars:A0) (_a:Int) (_l1:A1) (x:A0) (stt:Int×A0):Option (Lp Av (A0)):=match stt with|(a1,l3)=>(bif (ltB a1 (br x))then (idx x a1).bind λx1=>((bif (leB (iT x1 (cy .i64 x1)) n)then (idx vars (ck .i64 (iT x1 (cy .i64 x1)) 1)).bind λx2=>some (bE .i64 x2 1) else some (iT x1 (cy .i64 x1)))).bind λv=>((bif (ltB x1 0)then some (cy .i64 v) else some v)).bind λv1=>(idx l3 a1).bind λ_x2=>some (.next ((bE .i64 a1 1),(l3.set a1.toNat v1))) else some (.out l3))
def f0 (f:Bv) (n:Int) (vars:A0) (stt:Int×A1):Option (Lp (Int×A1) (A1)):=match stt with|(a,l1)=>(bif (ltB a (br f.Clauses))then (idx f.Clauses a).bind λx=>(mkL 8 (br x) (br x) 0).bind λ_l2=>(bv (fO f n vars a l1 x) bL (0,(List.replicate (br x).toNat 0))).bind λl3=>(dq 24 l1 [l3]).bind λ_l4=>some (.next ((bE .i64 a 1),(l1++[l3]))) else some (.out l1))
def ji (f:Bv) (n bits:Int):Option (Bv×A0) :=(mkL 8 n n 0).bind λ_l=>(bv (fN f n bits) bL (0,(List.replicate n.toNat 0))).bind λvars=>(bv (f0 f n vars) bL (0,[])).bind λl1=>some ((⟨f.Vars,l1⟩:Bv),vars)
def iK (vars:Int) (l:A0) (stt:Int):Option (Lp (Int) (Bool ⊕ Unit)):=match stt with|a=>(bif (ltB a (br l))then (idx l a).bind λx=>((bif (eqB x 0)then some true else (bif (gtB x vars)then some true else some (ltB x (cy .i64 vars))))).bind λa1=>(bif a1 then some (.out (.inl false)) else some (.next (bE .i64 a 1))) else some (.out (.inr ())))
def kd (vars:Int) (l:A0):Ah :=(bv (iK vars l) bL 0).bind λo=>match o with|.inl r=>some r|.inr _u=>some true
def jj (f:Bv) (stt:Int):Option (Lp (Int) (Bool ⊕ Unit)):=match stt with|a1=>(bif (ltB a1 (br f.Clauses))then (idx f.Clauses a1).bind λx=>(kd f.Vars x).bind λy=>(bif (eF y)then some (.out (.inl false)) else some (.next (bE .i64 a1 1))) else some (.out (.inr ())))
def ja (f:Bv):Ah :=((bif (ltB f.Vars 0)then some true else (bif (gtB f.Vars 65536)then some true else some (gtB (br f.Clauses) 262144)))).bind λa=>(bif a then some false else (bv (jj f) bL 0).bind λo=>match o with
   |.inl r=>some r|.inr _u=>some true)
def gF (l:A0):Option A0:=sortIM l
def fE (l:A0):Option (A0×Nat):=cmpIM l
def f5 (ar _aw:A0) (_edone:Int) (_am:AB) (_ebad:Bool) (x:Int):As :=(bif (ltB x 0)then (idx ar (cy .i64 x)).bind λx1=>some (cy .i8 x1) else (idx ar x).bind λx1=>some x1)
def dJ (ar aw:A0) (_edone:Int) (_ebad:Bool) (x:Int):Option A0 :=((bif (gtB x 0)then (idx ar x).bind λ_x1=>some (ar.set x.toNat 1) else (idx ar (cy .i64 x)).bind λ_x1=>some (ar.set (cy .i64 x).toNat (-1)))).bind λl=>(dq 8 aw [x]).bind λ_l1=>some l
def e9 (_f:Bv) (_a:Int) (_l1:A0) (_ebad:Bool) (l2:A1) (_l3:A0) (y2:A0×Nat) (_u:Unit) (stt:Int×A2):Option (Lp (Int×A2) (A2)):=match stt with|(a1,mp1)=>(bif (ltB a1 (lenP 0 2))then (idxP (y2.1.take y2.2) 0 2 a1).bind λx1=>(kckL [x1]).bind λ_u1=>(dq 8 (eC mp1 x1 []) [(br l2)]).bind λ_l5=>some (.next ((bE .i64 a1 1),(fT (jd mp1 x1) x1 ((eC mp1 x1 [])++[(br l2)])))) else some (.out mp1))
def e8 (f:Bv) (stt:Int×A2×A0×Bool×A1×A0):Option (Lp (Int×A2×A0×Bool×A1×A0) ((A2×A0×Bool×A1×A0))):=match stt with|(a,mp,l1,ebad,l2,l3)=>(bif (ltB a (br f.Clauses))then (idx f.Clauses a).bind λx=>(cn x).bind λy=>(gF y).bind λy1=>(fE y1).bind λy2=>(bif (eqB (br (y2.1.take y2.2)) 0)then some (.next ((bE .i64 a 1),mp,l1,true,l2,l3)) else (bif (eqB (br (y2.1.take y2.2)) 1)then (idx (y2.1.take y2.2) 0).bind λx1=>(f5 l1 l3 0 [] ebad x1).bind λy3=>(bif (eqB y3 (-1))then some (.next ((bE .i64 a 1),mp,l1,true,l2,l3)) else (bif (eqB y3 0)then (dJ l1 l3 0 ebad x1).bind λy4=>some (.next ((bE .i64 a 1),mp,y4,ebad,l2,(l3++[x1]))) else some (.next ((bE .i64 a 1),mp,l1,ebad,l2,l3)))) else (dq 24 l2 [(y2.1.take y2.2)]).bind λ_l4=>(qb (y2.1.take y2.2) 0 2).bind λu=>(bv (e9 f a l1 ebad l2 l3 y2 u) bL (0,mp)).bind λmp1=>some (.next ((bE .i64 a 1),mp1,l1,ebad,(l2++[(y2.1.take y2.2)]),l3)))) else some (.out (mp,l1,ebad,l2,l3)))
def gG (f:Bv):Option (A2×A0×Bool×A1×A0) :=(mkL 1 (bE .i64 f.Vars 1) (bE .i64 f.Vars 1) 0).bind λ_l=>(bv (e8 f) bL (0,([]:A2),(List.replicate (bE .i64 f.Vars 1).toNat 0),false,([]:A1),[])).bind λ(mp,l1,ebad,l2,l3)=>some (mp,l1,ebad,l2,l3)
def ij (y:Int) (ba bg:A0) (bi:Int) (aW:AB) (abad:Bool):Ah :=(f5 ba bg bi aW abad y).bind λy1=>some (neB y1 (-1))
def bM (s aJ aP:A0) (aY:Int) (aB:AB) (bf:Bool) (stt:Int):Option (Lp (Int) (Int ⊕ Unit)):=match stt with|a=>(bif (ltB a (br s))then (idx s a).bind λx=>(ij x aJ aP aY aB bf).bind λy=>(bif y then some (.out (.inl a)) else some (.next (bE .i64 a 1))) else some (.out (.inr ())))
def cb (s aJ aP:A0) (aY:Int) (aB:AB) (bf:Bool):As :=(bv (bM s aJ aP aY aB bf) bL 0).bind λo=>match o with|.inl r=>some r|.inr _u=>some (-1)
def cQ (ay:A2) (edone:Int) (am:AB) (ebad:Bool) (x:Int) (_u:Unit) (stt:Nat×Int×A0×A0×A1×A2×A0):Option (Lp (Nat×Int×A0×A0×A1×A2×A0) ((Bool×A0×A1×A2×A0) ⊕ (Nat×A0×A0×A1×A2×A0))):=match stt with|(n,a,old,l2,l,mp,l1)=>(bif (ltB a (br (eC ay x [])))then (idx old a).bind λx1=>(idx l x1).bind λx2=>((idx x2 0).bind λx3=>(bif (eqB x3 x)then (idx x2 1).bind λx4=>(idx (x2.set 0 x4) 1).bind λ_x5=>some ((x2.set 0 x4).set 1 x3) else some x2)).bind λcv=>(idx cv 0).bind λx3=>(f5 l1 l2 edone am ebad x3).bind λy=>(bif (eqB y 1)then (lenK old (n+1)).bind λ_u2=>some (.next ((n+1),(bE .i64 a 1),(ir old n [x1]),l2,(l.set x1.toNat cv),mp,l1)) else (qb cv 2 cv.length).bind λ_u2=>(cb (subL cv 2 cv.length) l1 l2 edone am ebad).bind λy1=>(bif (geB y1 0)then (idx cv (bE .i64 y1 2)).bind λx4=>(idx cv 1).bind λx5=>(idx (cv.set 1 x4) (bE .i64 y1 2)).bind λ_x6=>(idx ((cv.set 1 x4).set (bE .i64 y1 2).toNat x5) 1).bind λx7=>(kckL [x7]).bind λ_u3=>(ckB (neB x x7)).bind λ_u4=>(dq 8 (eC mp x7 []) [x1]).bind λ_l3=>some (.next (n,(bE .i64 a 1),old,l2,(l.set x1.toNat ((cv.set 1 x4).set (bE .i64 y1 2).toNat x5)),(fT (jd mp x7) x7 ((eC mp x7 [])++[x1])),l1)) else (lenK old (n+1)).bind λ_u3=>(bif (eqB y (-1))then (qb (ir old n [x1]) (bE .i64 a 1) (ir old n [x1]).length).bind λ_u4=>(lenK (ir old n [x1]) ((n+1)+(subL (ir old n [x1]) ((bE .i64 a 1).toNat) ((ir old n [x1]).length)).length)).bind λ_u5=>(kckL [x]).bind λ_u6=>(ckB (db mp x)).bind λ_u7=>(lenK (ir (ir old n [x1]) (n+1) (subL (ir old n [x1]) ((bE .i64 a 1).toNat) ((ir old n [x1]).length))) ((n+1)+(subL (ir old n [x1]) ((bE .i64 a 1).toNat) ((ir old n [x1]).length)).length)).bind λ_u8=>some (.out (.inl (false,l2,(l.set x1.toNat cv),(fT mp x ((ir (ir old n [x1]) (n+1) (subL (ir old n [x1]) ((bE .i64 a 1).toNat) ((ir old n [x1]).length))).take ((n+1)+(subL (ir old n [x1]) ((bE .i64 a 1).toNat) ((ir old n [x1]).length)).length))),l1))) else (dJ l1 l2 edone ebad x3).bind λy2=>some (.next ((n+1),(bE .i64 a 1),(ir old n [x1]),(l2++[x3]),(l.set x1.toNat cv),mp,y2))))) else some (.out (.inr (n,old,l2,l,mp,l1))))
def eM (aO:A1) (ay:A2) (ar aw:A0) (edone:Int) (am:AB) (ebad:Bool) (x:Int):Option (Bool×A0×A1×A2×A0) :=(kckL [x]).bind λu=>(qb (eC ay x []) 0 0).bind λ_u1=>(bv (cQ ay edone am ebad x u) bL (0,0,(eC ay x []),aw,aO,(jd ay x),ar)).bind λo=>match o with|.inl r=>some r|.inr (n,l,l1,l2,mp,l3)=>(ckB (db mp x)).bind λ_u2=>(lenK l n).bind λ_u3=>some (true,l1,l2,(fT mp x (l.take n)),l3)
def cg (am:AB) (ebad:Bool) (stt:A0×Int×A1×A2×A0):Option (Lp (A0×Int×A1×A2×A0) ((Bool×Int×A1×A2×A0×A0) ⊕ (A0×Int×A1×A2×A0))):=match stt with|(l2,aL,l,mp,l1)=>(bif (ltB aL (br l2))then (idx l2 aL).bind λx=>(eM l mp l1 l2 aL am ebad (cy .i64 x)).bind λy=>(bif (eF y.1)then some (.out (.inl (false,aL,y.2.2.1,y.2.2.2.1,y.2.2.2.2,y.2.1))) else some (.next (y.2.1,(bE .i64 aL 1),y.2.2.1,y.2.2.2.1,y.2.2.2.2))) else some (.out (.inr (l2,aL,l,mp,l1))))
def dy (aO:A1) (ay:A2) (ar aw:A0) (edone:Int) (am:AB) (ebad:Bool):Option (Bool×Int×A1×A2×A0×A0) :=(bv (cg am ebad) bL (aw,edone,aO,ay,ar)).bind λo=>match o with|.inl r=>some r|.inr (l,bdone,l1,mp,l2)=>some (true,bdone,l1,mp,l2,l)
def dA (aw:A0) (_edone:Int) (_am:AB) (_ebad:Bool) (x:Bb) (stt:Int×A0):Option (Lp Av (A0)):=match stt with|(a,l)=>(bif (ltB a (lenP x.trail.toNat aw.length))then (idxP aw x.trail.toNat aw.length a).bind λx1=>(idx l (iT x1 (cy .i64 x1))).bind λ_x2=>some (.next ((bE .i64 a 1),(l.set (iT x1 (cy .i64 x1)).toNat 0))) else some (.out l))
def ge (ar aw:A0) (edone:Int) (am:AB) (ebad:Bool):Option (Int×Int×Bool×A0×A0) :=(idx am (ck .i64 (br am) 1)).bind λx=>(qb am 0 (ck .i64 (br am) 1)).bind λ_u2=>(qb aw x.trail aw.length).bind λ_u3=>(bv (dA aw edone am ebad x) bL (0,ar)).bind λl=>(qb aw 0 x.trail).bind λ_u4=>some (x.variable_,x.trail,x.turned,(aw.take x.trail.toNat),l)
def ew (ar aw:A0) (edone:Int) (am:AB) (ebad:Bool) (x:Int) (turned:Bool):Option A0 :=(dq 24 am [(⟨(iT x (cy .i64 x)),(br aw),turned⟩:Bb)]).bind λ_l=>(dJ ar aw edone ebad x).bind λy=>some y
def cT (ebad:Bool) (n:Int) (stt:A0×AB×Int×A0):Option (Lp (A0×AB×Int×A0) ((Bool×Int×A0×A0×AB) ⊕ (A0×AB×Int×A0))):=match stt with|(l1,l2,aL,l)=>(bif (gtB (br l2) 0)then (ge l l1 aL l2 ebad).bind λy=>((bif (eF y.2.2.1)then some (leB y.1 n) else some false)).bind λa=>(bif a then (ew y.2.2.2.2 y.2.2.2.1 y.2.1 (l2.take ((ck .i64 (br l2) 1).toNat)) ebad y.1 true).bind λy1=>some (.out (.inl (true,y.2.1,y1,(y.2.2.2.1++[y.1]),((l2.take ((ck .i64 (br l2) 1).toNat))++[(⟨(iT y.1 (cy .i64 y.1)),(br y.2.2.2.1),true⟩:Bb)])))) else some (.next (y.2.2.2.1,(l2.take ((ck .i64 (br l2) 1).toNat)),y.2.1,y.2.2.2.2))) else some (.out (.inr (l1,l2,aL,l))))
def ef (ar aw:A0) (edone:Int) (am:AB) (ebad:Bool) (n:Int):Option (Bool×Int×A0×A0×AB) :=(bv (cT ebad n) bL (aw,am,edone,ar)).bind λo=>match o with|.inl r=>some r|.inr (l,l1,bdone,l2)=>some (false,bdone,l2,l,l1)
def cz (ar:A0) (ebad:Bool) (l3:AB) (y:Bool×Int×A1×A2×A0×A0) (stt:Int):Option (Lp (Int) ((AB×A0×A0) ⊕ Unit)):=match stt with|v=>(bif (leB v (ck .i64 (br ar) 1))then (idx y.2.2.2.2.1 v).bind λx=>(bif (eqB x 0)then (ew y.2.2.2.2.1 y.2.2.2.2.2 y.2.1 l3 ebad (cy .i64 v) false).bind λy1=>some (.out (.inl ((l3++[(⟨(iT (cy .i64 v) (cy .i64 (cy .i64 v))),(br y.2.2.2.2.2),false⟩:Bb)]),(y.2.2.2.2.2++[(cy .i64 v)]),y1))) else some (.next (bE .i64 v 1))) else some (.out (.inr ())))
def bZ (ar:A0) (ebad:Bool) (stt:A0×AB×Int×A1×A2×A0):Option (Lp (A0×AB×Int×A1×A2×A0) ((Bool×Int×A1×A2×A0×A0×AB))):=match stt with
 |(l2,l3,aL,l,mp,l1)=>(dy l mp l1 l2 aL l3 ebad).bind λy=>(bif (eF y.1)then (ef y.2.2.2.2.1 y.2.2.2.2.2 y.2.1 l3 ebad (ck .i64 (br ar) 1)).bind λy1=>(bif (eF y1.1)then some (.out (false,y1.2.1,y.2.2.1,y.2.2.2.1,y1.2.2.1,y1.2.2.2.1,y1.2.2.2.2)) else some (.next (y1.2.2.2.1,y1.2.2.2.2,y1.2.1,y.2.2.1,y.2.2.2.1,y1.2.2.1))) else (bv (cz ar ebad l3 y) bL 1).bind λo=>match o with
    |.inl (l4,l5,l6)=>some (.next (l5,l4,y.2.1,y.2.2.1,y.2.2.2.1,l6))|.inr _u=>some (.out (true,y.2.1,y.2.2.1,y.2.2.2.1,y.2.2.2.2.1,y.2.2.2.2.2,l3)))
def d7 (aO:A1) (ay:A2) (ar aw:A0) (edone:Int) (am:AB) (ebad:Bool):Option (Bool×Int×A1×A2×A0×A0×AB) :=(bif ebad then some (false,edone,aO,ay,ar,aw,am) else (bv (bZ ar ebad) loopG (aw,am,edone,aO,ay,ar)).bind λr=>some r)
def dh (ar:A0) (_edone:Int) (_ebad:Bool) (n:Int) (stt:Int×Ag):Option (Lp (Int×Ag) (Ag)):=match stt with|(a,out)=>(bif (ltB a (br (List.replicate n.toNat ())))then (idx ar (bE .i64 a 1)).bind λx=>(idx out a).bind λ_x1=>some (.next ((bE .i64 a 1),(out.set a.toNat (eqB x 1)))) else some (.out out))
def eU (ar:A0) (edone:Int) (ebad:Bool) (n:Int):Option Ag :=(mkL 1 n n false).bind λ_l=>(bv (dh ar edone ebad n) bL (0,(List.replicate n.toNat false))).bind λout=>some out
def lu (f:Bv):Option (Ag×Bool×Int) :=(ja f).bind λy=>(bif (eF y)then some ([],false,2) else (gG f).bind λy1=>(d7 y1.2.2.2.1 y1.1 y1.2.1 y1.2.2.2.2 0 [] y1.2.2.1).bind λy2=>(bif (eF y2.1)then some ([],false,0) else (eU y2.2.2.2.2.1 y2.2.1 y1.2.2.1 f.Vars).bind λy3=>some (y3,true,0)))
def ik (t:Tree) (gv:Grid):Option (Int×Int×Int) :=(df t.Hood).bind λy=>(kr t.States).bind λy1=>(some ()).bind λ_u=>some (y1,(bE .i64 gv.W (ce .i64 2 y)),(bE .i64 gv.H (ce .i64 2 y)))
def gA (l:Ag) (vars:A0) (stt:Int×Ag):Option (Lp (Int×Ag) (Ag)):=match stt with|(a,out)=>(bif (ltB a (br vars))then (idx vars a).bind λx=>(idx l x).bind λx1=>(idx out a).bind λ_x2=>some (.next ((bE .i64 a 1),(out.set a.toNat x1))) else some (.out out))
def lg (l:Ag) (vars:A0):Option Ag :=(mkL 1 (br vars) (br vars) false).bind λ_l1=>(bv (gA l vars) bL (0,(List.replicate (br vars).toNat false))).bind λout=>some out
def pa (l:Ag) (stt:Int×Int):Option (Lp (Int×Int) (Int)):=match stt with|(n,a)=>(bif (ltB a (br l))then ((idx l a).bind λx=>(bif x then (ishl .i64 1 a).bind λn1=>some (ior .i64 n n1) else some n)).bind λn1=>some (.next (n1,(bE .i64 a 1))) else some (.out n))
def mJ (l:Ag):As :=(bif (gtB (br l) 8)then some 0 else (bv (pa l) bL (0,0)).bind λn=>some n)
def dw (l:Ag) (a a1 a2:Int) (stt:Int×A0):Option (Lp Av (A0)):=match stt with|(a3,l1)=>(bif (ltB a3 (ce .i64 a a1))then (slcL l (ce .i64 a3 a2) (ce .i64 (bE .i64 a3 1) a2)).bind λl2=>(mJ l2).bind λy=>(dq 8 l1 [y]).bind λ_l3=>some (.next ((bE .i64 a3 1),(l1++[y]))) else some (.out l1))
def di (l:Ag) (a a1 a2:Int):Option A0 :=(bv (dw l a a1 a2) bL (0,[])).bind λl1=>some l1
def d6 (t:Tree) (gv:Grid):Option (Grid×Bool×Int) :=(eO t gv).bind λy=>(bif (neB y.2.2 0)then some ((⟨0,0,0,[]⟩:Grid),false,y.2.2) else (kr t.States).bind λy1=>(ji y.1 y.2.1 y1).bind λy2=>(lu y2.1).bind λy3=>((bif (neB y3.2.2 0)then some true else some (eF y3.2.1))).bind λa=>(bif a then some ((⟨0,0,0,[]⟩:Grid),false,y3.2.2) else (ik t gv).bind λy4=>(lg y3.1 y2.2).bind λy5=>(di y5 y4.2.1 y4.2.2 y4.1).bind λy6=>some ((⟨y4.2.1,y4.2.2,0,y6⟩:Grid),true,0)))
def se (n most:Int) (y:A2×A0×Bool×A1×A0) (stt:Bool×A2×A0×Int×A1×(List Ag)×A0×AB):Option (Lp (Bool×A2×A0×Int×A1×(List Ag)×A0×AB) (((List Ag)×Int) ⊕ (List Ag))):=match stt with|(ok,mp,l,edone,l1,out,l2,l3)=>(bif ok then (bif (geB (br out) most)then some (.out (.inl ([],14))) else (eU l edone y.2.2.1 n).bind λy2=>(dq 24 out [y2]).bind λ_l4=>(ef l l2 edone l3 y.2.2.1 n).bind λy3=>(bif y3.1 then (d7 l1 mp y3.2.2.1 y3.2.2.2.1 y3.2.1 y3.2.2.2.2 y.2.2.1).bind λy4=>some (.next (y4.1,y4.2.2.2.1,y4.2.2.2.2.1,y4.2.1,y4.2.2.1,(out++[y2]),y4.2.2.2.2.2.1,y4.2.2.2.2.2.2)) else some (.next (false,mp,y3.2.2.1,y3.2.1,l1,(out++[y2]),y3.2.2.2.1,y3.2.2.2.2)))) else some (.out (.inr out)))
def m_solve_All (f:Bv) (n most:Int):Option ((List Ag)×Int) :=((ja f).bind λy=>(bif (eF y)then some true else (bif (ltB n 0)then some true else (bif (gtB n f.Vars)then some true else (bif (ltB most 0)then some true else some (gtB most 262144)))))).bind λa=>(bif a then some ([],2) else (gG f).bind λy=>(d7 y.2.2.2.1 y.1 y.2.1 y.2.2.2.2 0 [] y.2.2.1).bind λy1=>(bv (se n most y) bL (y1.1,y1.2.2.2.1,y1.2.2.2.2.1,y1.2.1,y1.2.2.1,[],y1.2.2.2.2.2.1,y1.2.2.2.2.2.2)).bind λo=>match o with
   |.inl r=>some r|.inr out=>some (out,0))
def dD (sv1 sv2:A0) (stt:Int):Option (Lp (Int) (Int ⊕ Unit)):=match stt with|a=>(bif (ltB a (br sv1))then (idx sv1 a).bind λx=>(bif (geB a (br sv2))then some (.out (.inl 1)) else (idx sv2 a).bind λx1=>(fL x x1).bind λy=>(bif (neB y 0)then some (.out (.inl y)) else some (.next (bE .i64 a 1)))) else some (.out (.inr ())))
def gt (sv1 sv2:A0):As :=(bv (dD sv1 sv2) bL 0).bind λo=>match o with|.inl r=>some r|.inr _u=>(bif (ltB (br sv1) (br sv2))then some (-1) else some 0)
def mb (a b:Grid):As :=(gt a.Cells b.Cells).bind λy=>some y
def d5 (l:AD):Option AD:=sortR fD gC l
def oq (y1:(List Ag)×Int) (y2:Int×Int×Int) (stt:Int×AD):Option (Lp (Int×AD) (AD)):=match stt with|(a1,out)=>(bif (ltB a1 (br y1.1))then (idx y1.1 a1).bind λx=>(di x y2.2.1 y2.2.2 y2.1).bind λy3=>(dq 48 out [(⟨y2.2.1,y2.2.2,0,y3⟩:Grid)]).bind λ_l=>some (.next ((bE .i64 a1 1),(out++[(⟨y2.2.1,y2.2.2,0,y3⟩:Grid)]))) else some (.out out))
def nH (t:Tree) (gv:Grid) (most:Int):Option (AD×Int) :=(eO t gv).bind λy=>(bif (neB y.2.2 0)then some ([],y.2.2) else ((bif (ltB most 1)then some true else some (gtB most 5000))).bind λa=>(bif a then some ([],2) else (m_solve_All y.1 y.2.1 most).bind λy1=>(bif (neB y1.2 0)then some ([],y1.2) else (ik t gv).bind λy2=>(bv (oq y1 y2) bL (0,[])).bind λout=>(d5 out).bind λy3=>some (y3,0))))
def nG (s:Int) (a:Tree):Ah :=some (geB s a.States)
def dz (s:A0) (cv:Tree) (stt:Int):Option (Lp (Int) (Int ⊕ Unit)):=match stt with|a=>(bif (ltB a (br s))then (idx s a).bind λx=>(nG x cv).bind λy=>(bif y then some (.out (.inl a)) else some (.next (bE .i64 a 1))) else some (.out (.inr ())))
def dQ (s:A0) (cv:Tree):As :=(bv (dz s cv) bL 0).bind λo=>match o with|.inl r=>some r|.inr _u=>some (-1)
def du (s:A0) (cv:Tree):Ah :=(dQ s cv).bind λy=>some (geB y 0)
def mP (t:Tree) (gv:Grid):As :=(hY t).bind λy=>(bif (eF y)then some 11 else (ma gv).bind λy1=>(bif (eF y1)then some 2 else (du gv.Cells t).bind λy2=>(bif y2 then some 10 else some 0)))
def s9 (s:Int) (a:Tree):Ah :=((bif (ltB s 0)then some true else some (geB s a.States))).bind λa1=>some a1
def ec (s:A0) (cv:Tree) (stt:Int):Option (Lp (Int) (Int ⊕ Unit)):=match stt with|a=>(bif (ltB a (br s))then (idx s a).bind λx=>(s9 x cv).bind λy=>(bif y then some (.out (.inl a)) else some (.next (bE .i64 a 1))) else some (.out (.inr ())))
def eG (s:A0) (cv:Tree):As :=(bv (ec s cv) bL 0).bind λo=>match o with|.inl r=>some r|.inr _u=>some (-1)
def dS (s:A0) (cv:Tree):Ah :=(eG s cv).bind λy=>some (geB y 0)
def qs (t:Tree) (in_:A0) (stt:Int×Int):Option (Lp (Int×Int) (Int)):=match stt with|(k,a)=>(bif (ltB a (br in_))then (idx in_ a).bind λx=>(idx t.Nodes k).bind λx1=>(idx x1.Next x).bind λx2=>some (.next (x2,(bE .i64 a 1))) else some (.out k))
def tZ (t:Tree) (in_:A0):As :=(bv (qs t in_) bL ((ck .i64 (br t.Nodes) 1),0)).bind λk=>some k
def m_tree_Eval (t:Tree) (in_:A0):Option (Int×Int) :=(hY t).bind λy=>(bif (eF y)then some (0,11) else (bif (neB (br in_) (br t.Hood))then some (0,2) else (dS in_ t).bind λy1=>(bif y1 then some (0,10) else (tZ t in_).bind λy2=>some (y2,0))))
def mT (t:Tree) (gv:Grid) (y1 a1 a2:Int) (_l1:A0) (stt:Int×A0):Option (Lp Av (A0)):=match stt with|(a3,in_)=>(bif (ltB a3 (br t.Hood))then (idx t.Hood a3).bind λx=>(idx gv.Cells (bE .i64 (bE .i64 (bE .i64 (ce .i64 (bE .i64 (bE .i64 a1 y1) x.Y) gv.W) a2) y1) x.X)).bind λx1=>(dq 8 in_ [x1]).bind λ_l2=>some (.next ((bE .i64 a3 1),(in_++[x1]))) else some (.out in_))
def mW (t:Tree) (gv:Grid) (y1 a1:Int) (stt:Int×A0):Option (Lp Av (A0)):=match stt with|(a2,l1)=>(bif (ltB a2 (ck .i64 gv.W (ce .i64 2 y1)))then (bv (mT t gv y1 a1 a2 l1) bL (0,[])).bind λin_=>(m_tree_Eval t in_).bind λy2=>(dq 8 l1 [y2.1]).bind λ_l2=>some (.next ((bE .i64 a2 1),(l1++[y2.1]))) else some (.out l1))
def mZ (t:Tree) (gv:Grid) (y1:Int) (stt:Int×A0):Option (Lp Av (A0)):=match stt with|(a1,l)=>(bif (ltB a1 (ck .i64 gv.H (ce .i64 2 y1)))then (bv (mW t gv y1 a1) bL (0,l)).bind λl1=>some (.next ((bE .i64 a1 1),l1)) else some (.out l))
def ou (t:Tree) (gv:Grid):Option (Grid×Int) :=(mP t gv).bind λy=>(bif (neB y 0)then some ((⟨0,0,0,[]⟩:Grid),y) else (df t.Hood).bind λy1=>((bif (ltB (ck .i64 gv.W (ce .i64 2 y1)) 1)then some true else some (ltB (ck .i64 gv.H (ce .i64 2 y1)) 1))).bind λa=>(bif a then some ((⟨0,0,0,[]⟩:Grid),6) else (bv (mZ t gv y1) bL (0,[])).bind λl=>some ((⟨(ck .i64 gv.W (ce .i64 2 y1)),(ck .i64 gv.H (ce .i64 2 y1)),0,l⟩:Grid),0)))
def mU (t:Tree) (n:Int) (stt:Int×Int×Int×A0×AD):Option (Lp (Int×Int×Int×A0×AD) (AD)):=match stt with|(gW,gH,b0,aR,out)=>(bif (ltB (br out) n)then (d6 t (⟨gW,gH,b0,aR⟩:Grid)).bind λy1=>((bif (eqB y1.2.2 6)then some true else some (eF y1.2.1))).bind λa1=>(bif a1 then some (.out out) else (dq 48 out [y1.1]).bind λ_l=>some (.next (y1.1.W,y1.1.H,y1.1.Edge,y1.1.Cells,(out++[y1.1])))) else some (.out out))
def o7 (t:Tree) (gv:Grid) (n:Int):Option (AD×Int) :=(mP t gv).bind λy=>(bif (neB y 0)then some ([],y) else ((bif (ltB n 0)then some true else some (gtB n 100))).bind λa=>(bif a then some ([],2) else (bv (mU t n) bL (gv.W,gv.H,gv.Edge,gv.Cells,[])).bind λout=>some (out,0)))
def nA (a b:Grid) (stt:Int):Option (Lp (Int) (Bool ⊕ Unit)):=match stt with|i=>(bif (ltB i (br a.Cells))then (idx a.Cells i).bind λx=>(idx b.Cells i).bind λx1=>(bif (neB x x1)then some (.out (.inl false)) else some (.next (bE .i64 i 1))) else some (.out (.inr ())))
def lQ (a b:Grid):Ah :=((bif (neB a.W b.W)then some true else (bif (neB a.H b.H)then some true else (bif (neB a.Edge b.Edge)then some true else some (neB (br a.Cells) (br b.Cells)))))).bind λa1=>(bif a1 then some false else (bv (nA a b) bL 0).bind λo=>match o with
   |.inl r=>some r|.inr _u=>some true)
def ng:Ah :=(m_L48_shift).bind λy=>(d6 y (⟨1,1,0,[1]⟩:Grid)).bind λy1=>(nH y (⟨1,1,0,[1]⟩:Grid) 256).bind λy2=>(nH y (⟨1,1,0,[1]⟩:Grid) 255).bind λy3=>(ou y y1.1).bind λy4=>(d6 (⟨2,[(⟨0,0⟩:Point)],[(⟨1,[1,1]⟩:Node)]⟩:Tree) (⟨1,1,0,[0]⟩:Grid)).bind λy5=>(o7 y (⟨1,1,0,[1]⟩:Grid) 5).bind λy6=>(d6 (⟨0,[],[]⟩:Tree) (⟨1,1,0,[1]⟩:Grid)).bind λy7=>((bif y1.2.1 then (bif (eqB y1.2.2 0)then (lQ y1.1 (⟨3,3,0,[0,0,0,1,0,0,0,0,0]⟩:Grid)).bind λy8=>(bif y8 then (bif (eqB y2.2 0)then (bif (eqB (br y2.1) 256)then (bif (eqB y3.2 14)then (bif (eqB y4.2 0)then (lQ y4.1 (⟨1,1,0,[1]⟩:Grid)).bind λy9=>(bif y9 then (bif (eF y5.2.1)then (bif (eqB y5.2.2 0)then (bif (eqB y6.2 0)then (bif (eqB (br y6.1) 1)then some (eqB y7.2.2 11) else some false) else some false) else some false) else some false) else some false) else some false) else some false) else some false) else some false) else some false) else some false) else some false)).bind λa=>some a
def mE (t:Tree) (gv:Grid) (stt:Int):Option (Lp (Int) (Int ⊕ Unit)):=match stt with|i=>(bif (ltB i (br gv.Cells))then (idx gv.Cells i).bind λx=>(bif (geB x t.States)then some (.out (.inl 10)) else some (.next (bE .i64 i 1))) else some (.out (.inr ())))
def ko (t:Tree) (gv:Grid):As :=(lM t).bind λy=>(bif (eF y)then some 11 else (nk gv).bind λy1=>(bif (eF y1)then some 2 else (bv (mE t gv) bL 0).bind λo=>match o with
    |.inl r=>some r|.inr _u=>(dR t.Hood).bind λy2=>(bif (gtB (ce .i64 (bE .i64 gv.W (ce .i64 2 y2)) (bE .i64 gv.H (ce .i64 2 y2))) 16)then some 6 else some 0)))
def o9 (states:Int):As :=(bif (eqB states 2)then some 1 else ((bif (eqB states 3)then some true else some (eqB states 4))).bind λa=>(bif a then some 2 else ((bif (geB states 5)then some (leB states 8) else some false)).bind λa1=>(bif a1 then some 3 else some 0)))
def oo (n k:Int):As :=(ishr .i64 n (nS .u64 k)).bind λn1=>some (iand .i64 n1 1)
def lh (p:A0) (cv:Int) (stt:Int×A0):Option (Lp Av (A0)):=match stt with|(jv,out)=>(bif (ltB jv (br p))then ((oo cv jv).bind λy=>(bif (eqB y 1)then (idx p jv).bind λx=>(dq 8 out [(cy .i64 x)]).bind λ_l=>some (out++[(cy .i64 x)]) else (idx p jv).bind λx=>(dq 8 out [x]).bind λ_l=>some (out++[x]))).bind λout1=>some (.next ((bE .i64 jv 1),out1)) else some (.out out))
def ly (p:A0) (cv:Int):Option A0 :=(bv (lh p cv) bL (0,[])).bind λout=>some out
def gk (_az:Int) (aD:A1) (l:A0):Option (Unit) :=(dq 8 [] l).bind λ_l1=>(dq 8 ([]++l) []).bind λ_l2=>(dq 24 aD [(([]++l)++[])]).bind λ_l3=>some ()
def jw (_n _states y i:Int) (_l:A1) (_out:AC) (stt:Int×A0):Option (Lp Av (A0)):=match stt with|(k,l1)=>(bif (leB k y)then (dq 8 l1 [(bE .i64 (ce .i64 i y) k)]).bind λ_l2=>some (.next ((bE .i64 k 1),(l1++[(bE .i64 (ce .i64 i y) k)]))) else some (.out l1))
def jl (n _states y _i:Int) (_out:AC) (l1:A0) (stt:Int×A1):Option (Lp (Int×A1) (A1)):=match stt with|(cv,l2)=>(ishl .i64 1 (nS .u64 y)).bind λn1=>(bif (ltB cv n1)then (ly l1 cv).bind λy1=>(gk (ce .i64 n y) l2 y1).bind λ_y2=>some (.next ((bE .i64 cv 1),(l2++[(([]++y1)++[])]))) else some (.out l2))
def lA (n states y:Int) (stt:Int×A1×AC):Option (Lp (Int×A1×AC) ((A1×AC))):=match stt with|(i,l,out)=>(bif (ltB i n)then (bv (jw n states y i l out) bL (1,[])).bind λl1=>(bv (jl n states y i out l1) bL (states,l)).bind λl2=>(dq 32 out [(⟨0,l1⟩:Ba)]).bind λ_l3=>some (.next ((bE .i64 i 1),l2,(out++[(⟨0,l1⟩:Ba)]))) else some (.out (l,out)))
def oS (n states:Int):Option (Int×AC×A1) :=(o9 states).bind λy=>(bv (lA n states y) bL (0,[],[])).bind λ(l,out)=>some ((ce .i64 n y),out,l)
def m7 (a b:A0) (stt:Int):Option (Lp (Int) (Bool ⊕ Unit)):=match stt with|i=>(bif (ltB i (br a))then (idx a i).bind λx=>(idx b i).bind λx1=>(bif (neB x x1)then some (.out (.inl false)) else some (.next (bE .i64 i 1))) else some (.out (.inr ())))
def rb (a b:A0):Ah :=(bif (neB (br a) (br b))then some false else (bv (m7 a b) bL 0).bind λo=>match o with
   |.inl r=>some r|.inr _u=>some true)
def eH (l:Ax) (i:Int) (av:A0) (_nexts:A1) (stt:Int×A0):Option (Lp Av (A0)):=match stt with|(s,next)=>(idx l i).bind λx=>(bif (ltB s (br x.Next))then (idx x.Next s).bind λx1=>((bif (gtB x.Level 1)then (idx av x1).bind λx2=>some x2 else some x1)).bind λk=>(dq 8 next [k]).bind λ_l1=>some (.next ((bE .i64 s 1),(next++[k]))) else some (.out next))
def iZ (l:Ax) (i:Int) (_av:A0) (nexts:A1) (next:A0) (stt:Int×Int):Option (Lp (Int×Int) (Int)):=match stt with|(first,jv)=>(bif (geB jv 0)then (((idx l jv).bind λx=>(idx l i).bind λx1=>(bif (eqB x.Level x1.Level)then (idx nexts jv).bind λx2=>(rb x2 next).bind λy=>some y else some false)).bind λa=>(bif a then some jv else some first)).bind λfirst1=>some (.next (first1,(ck .i64 jv 1))) else some (.out first))
def gR (l:Ax) (stt:Int×A0×A1):Option (Lp (Int×A0×A1) (A0)):=match stt with|(i,av,nexts)=>(bif (ltB i (br l))then (bv (eH l i av nexts) bL (0,[])).bind λnext=>(bv (iZ l i av nexts next) bL (i,(ck .i64 i 1))).bind λfirst=>(dq 8 av [first]).bind λ_l1=>(dq 24 nexts [next]).bind λ_l2=>some (.next ((bE .i64 i 1),(av++[first]),(nexts++[next]))) else some (.out av))
def mz (l:Ax):Option A0 :=(bv (gR l) bL (0,[],[])).bind λav=>some av
def eT (rcv:AG) (l:Ax) (av:A0) (i:Int) (_out:Ax) (x1:Node) (stt:Int×A0×Ax×A0):Option (Lp (Int×A0×Ax×A0) ((A0×Ax×A0))):=match stt with|(s,l1,out1,aN)=>(idx l i).bind λx2=>(bif (ltB s (br x2.Next))then (idx x2.Next s).bind λx3=>((bif (gtB x1.Level 1)then (idx av x3).bind λx4=>(rcv l av x4 aN out1).bind λy=>(idx y.1 x4).bind λx5=>some (x5,y.2,y.1) else some (x3,out1,aN))).bind λ(k,out2,done2)=>(dq 8 l1 [k]).bind λ_l2=>some (.next ((bE .i64 s 1),(l1++[k]),out2,done2)) else some (.out (l1,out1,aN)))
def fQ (rcv:AG) (l:Ax) (av:A0) (i:Int) (done:A0) (out:Ax):Option (A0×Ax) :=(idx done i).bind λx=>(bif (geB x 0)then some (done,out) else (idx l i).bind λx1=>(bv (eT rcv l av i out x1) bL (0,[],out,done)).bind λ(l1,out1,aN)=>(idx aN i).bind λ_x2=>(dq 32 out1 [(⟨x1.Level,l1⟩:Node)]).bind λ_l2=>some ((aN.set i.toNat (br out1)),(out1++[(⟨x1.Level,l1⟩:Node)])))
def m_R13_walk_o_o (l:Ax) (av:A0) (i:Int) (done:A0) (out:Ax):Option (A0×Ax):=rq fQ (λ_ _ _ _ _=>none) recF l av i done out
def oC (l:Ax) (av:A0) (i:Int) (x1:Node) (stt:Int×A0×Ax×A0):Option (Lp (Int×A0×Ax×A0) ((A0×Ax×A0))):=match stt with|(s,l1,out,aN)=>(idx l i).bind λx2=>(bif (ltB s (br x2.Next))then (idx x2.Next s).bind λx3=>((bif (gtB x1.Level 1)then (idx av x3).bind λx4=>(m_R13_walk_o_o l av x4 aN out).bind λy=>(idx y.1 x4).bind λx5=>some (x5,y.2,y.1) else some (x3,out,aN))).bind λ(k,out1,done2)=>(dq 8 l1 [k]).bind λ_l2=>some (.next ((bE .i64 s 1),(l1++[k]),out1,done2)) else some (.out (l1,out,aN)))
def pt (_rcv:(Ax->A0->Int->A0->Option (A0×Ax))) (l:Ax) (av:A0) (i:Int) (done:A0):Option (A0×Ax) :=(idx done i).bind λx=>(bif (geB x 0)then some (done,[]) else (idx l i).bind λx1=>(bv (oC l av i x1) bL (0,[],[],done)).bind λ(l1,out,aN)=>(idx aN i).bind λ_x2=>(dq 32 out [(⟨x1.Level,l1⟩:Node)]).bind λ_l2=>some ((aN.set i.toNat (br out)),(out++[(⟨x1.Level,l1⟩:Node)])))
def rl (l:Ax) (av:A0) (i:Int) (done:A0):Option (A0×Ax):=rq pt (λ_ _ _ _=>none) recF l av i done
def iX (l:Ax) (_y:A0) (stt:Int×A0):Option (Lp Av (A0)):=match stt with|(i,done)=>(bif (ltB i (br l))then (dq 8 done [(-1)]).bind λ_l1=>some (.next ((bE .i64 i 1),(done++[(-1)]))) else some (.out done))
def mF (l:Ax):Option Ax :=(mz l).bind λy=>(bv (iX l y) bL (0,[])).bind λdone=>(idx y (ck .i64 (br l) 1)).bind λx=>(rl l y x done).bind λy1=>some y1.2
def md (t:Tree):Option (Tree) :=(lM t).bind λy=>(bif (eF y)then some (⟨0,[],[]⟩:Tree) else (mF t.Nodes).bind λy1=>some (⟨t.States,t.Hood,y1⟩:Tree))
def lK (f:Bv):Ah :=((bif (leB f.Vars 65536)then some (leB (br f.Clauses) 262144) else some false)).bind λa=>some a
def lx (l:A0) (stt:Int):Option (Lp (Int) (Bool ⊕ Unit)):=match stt with|i=>(bif (ltB i (br l))then (idx l i).bind λx=>(idx l 0).bind λx1=>(bif (neB x x1)then some (.out (.inl false)) else some (.next (bE .i64 i 1))) else some (.out (.inr ())))
def oO (l:A0):Ah :=(bv (lx l) bL 1).bind λo=>match o with|.inl r=>some r|.inr _u=>some true
def gx (_az:Int) (aD:A1) (l more:A0):Option (Unit) :=(dq 8 [] l).bind λ_l1=>(dq 8 ([]++l) more).bind λ_l2=>(dq 24 aD [(([]++l)++more)]).bind λ_l3=>some ()
def gg (t:Tree) (_in_:AC) (_y _i _aH:Int) (_l:A1) (of_:AC) (x:Node) (stt:Int×AC):Option (Lp (Int×AC) (AC)):=match stt with|(s,kids)=>(bif (ltB s t.States)then ((bif (eqB x.Level 1)then (idx x.Next s).bind λx1=>(dq 32 kids [(⟨x1,[]⟩:Ba)]).bind λ_l1=>some (kids++[(⟨x1,[]⟩:Ba)]) else (idx x.Next s).bind λx1=>(idx of_ x1).bind λx2=>(dq 32 kids [x2]).bind λ_l1=>some (kids++[x2]))).bind λkids1=>some (.next ((bE .i64 s 1),kids1)) else some (.out kids))
def gm (_t:Tree) (_in_:AC) (y _i:Int) (_l:A1) (_of_:AC) (_x:Node) (_kids:AC) (stt:Int×Int×A0):Option (Lp (Int×Int×A0) (Av)):=match stt with|(k,aC,l1)=>(bif (ltB k y)then (dq 8 l1 [(bE .i64 aC 1)]).bind λ_l2=>some (.next ((bE .i64 k 1),(bE .i64 aC 1),(l1++[(bE .i64 aC 1)]))) else some (.out (aC,l1)))
def iw (_t:Tree) (_in_:AC) (y _i:Int) (_of_:AC) (_x:Node) (kids:AC) (aC:Int) (l1:A0) (s:Int) (y2:A0) (stt:Int×A1):Option (Lp (Int×A1) (A1)):=match stt with|(k,l4)=>(bif (ltB k y)then ((idx kids s).bind λx2=>(bif (gtB (br x2.Vars) 0)then (idx l1 k).bind λx3=>(idx x2.Vars k).bind λx4=>(gx aC l4 y2 [(cy .i64 x3),x4]).bind λ_y3=>(gx aC (l4++[(([]++y2)++[(cy .i64 x3),x4])]) y2 [x3,(cy .i64 x4)]).bind λ_y4=>some ((l4++[(([]++y2)++[(cy .i64 x3),x4])])++[(([]++y2)++[x3,(cy .i64 x4)])]) else (oo x2.State k).bind λy3=>(bif (eqB y3 1)then (idx l1 k).bind λx3=>(gx aC l4 y2 [x3]).bind λ_y4=>some (l4++[(([]++y2)++[x3])]) else (idx l1 k).bind λx3=>(gx aC l4 y2 [(cy .i64 x3)]).bind λ_y4=>some (l4++[(([]++y2)++[(cy .i64 x3)])])))).bind λl5=>some (.next ((bE .i64 k 1),l5)) else some (.out l4))
def io (t:Tree) (in_:AC) (y i:Int) (of_:AC) (x:Node) (kids:AC) (aC:Int) (l1:A0) (stt:Int×A1):Option (Lp (Int×A1) (A1)):=match stt with|(s,l3)=>(bif (ltB s t.States)then (idx in_ (ck .i64 (br t.Hood) x.Level)).bind λx1=>(ly x1.Vars s).bind λy2=>(bv (iw t in_ y i of_ x kids aC l1 s y2) bL (0,l3)).bind λl4=>some (.next ((bE .i64 s 1),l4)) else some (.out l3))
def gn (t:Tree) (in_:AC) (y:Int) (stt:Int×Int×A1×AC):Option (Lp (Int×Int×A1×AC) ((Int×A1×AC))):=match stt with|(i,aH,l,of_)=>((bif (ltB i (br t.Nodes))then (lK (⟨aH,l⟩:Bv)).bind λy1=>some y1 else some false)).bind λa=>(bif a then (idx t.Nodes i).bind λx=>(bv (gg t in_ y i aH l of_ x) bL (0,[])).bind λkids=>(oO x.Next).bind λy1=>(bif y1 then (idx kids 0).bind λx1=>(dq 32 of_ [x1]).bind λ_l1=>some (.next ((bE .i64 i 1),aH,l,(of_++[x1]))) else (bv (gm t in_ y i l of_ x kids) bL (0,aH,[])).bind λ(aC,l1)=>(dq 32 of_ [(⟨0,l1⟩:Ba)]).bind λ_l2=>(bv (io t in_ y i of_ x kids aC l1) bL (0,l)).bind λl3=>some (.next ((bE .i64 i 1),aC,l3,(of_++[(⟨0,l1⟩:Ba)])))) else some (.out (aH,l,of_)))
def lS (az:Int) (aD:A1) (t:Tree) (in_:AC):Option (Int×Int×A0×A1) :=(o9 t.States).bind λy=>(bv (gn t in_ y) bL (0,az,aD,[])).bind λ(aH,l,of_)=>(lK (⟨aH,l⟩:Bv)).bind λy1=>(bif (eF y1)then some (aH,0,[],l) else (idx of_ (ck .i64 (br of_) 1)).bind λx=>some (aH,x.State,x.Vars,l))
def mO (az:Int) (l:A0) (n:Int) (stt:Int×A1):Option (Lp (Int×A1) (A1)):=match stt with|(k,l1)=>(bif (ltB k (br l))then ((oo n k).bind λy=>(bif (eqB y 1)then (idx l k).bind λx=>(gk az l1 [x]).bind λ_y1=>some (l1++[(([]++[x])++[])]) else (idx l k).bind λx=>(gk az l1 [(cy .i64 x)]).bind λ_y1=>some (l1++[(([]++[(cy .i64 x)])++[])]))).bind λl2=>some (.next ((bE .i64 k 1),l2)) else some (.out l1))
def oM (az:Int) (aD:A1) (l:A0) (n:Int):Option A1 :=(bv (mO az l n) bL (0,aD)).bind λl1=>some l1
def iM (_az:Int) (aD:A1):Option (Unit) :=(dq 8 ([]:A0) []).bind λ_l=>(dq 8 (([]:A0)++[]) []).bind λ_l1=>(dq 24 aD [((([]:A0)++[])++[])]).bind λ_l2=>some ()
def gJ (gv:Grid) (y1:Int) (y2:Int×AC×A1) (y3:Tree) (_i _az:Int) (_l:A1) (n n1:Int) (stt:Int×AC):Option (Lp (Int×AC) (AC)):=match stt with|(k,in_)=>(bif (ltB k (br y3.Hood))then (idx y3.Hood k).bind λx=>(idx y2.2.1 (bE .i64 (bE .i64 (ce .i64 (bE .i64 (bE .i64 n1 y1) x.Y) (bE .i64 gv.W (ce .i64 2 y1))) (bE .i64 n y1)) x.X)).bind λx1=>(dq 32 in_ [x1]).bind λ_l1=>some (.next ((bE .i64 k 1),(in_++[x1]))) else some (.out in_))
def dV (gv:Grid) (y1:Int) (y2:Int×AC×A1) (y3:Tree) (stt:Int×Int×A1):Option (Lp (Int×Int×A1) ((Int×A1))):=match stt with|(i,az,l)=>((bif (ltB i (br gv.Cells))then (lK (⟨az,l⟩:Bv)).bind λy4=>some y4 else some false)).bind λa=>(bif a then (irem i gv.W).bind λn=>(iquo .i64 i gv.W).bind λn1=>(bv (gJ gv y1 y2 y3 i az l n n1) bL (0,[])).bind λin_=>(lS az l y3 in_).bind λy4=>(bif (gtB (br y4.2.2.1) 0)then (idx gv.Cells i).bind λx=>(oM y4.1 y4.2.2.2 y4.2.2.1 x).bind λy5=>some (.next ((bE .i64 i 1),y4.1,y5)) else (idx gv.Cells i).bind λx=>(bif (neB y4.2.1 x)then (iM y4.1 y4.2.2.2).bind λ_y5=>some (.next ((bE .i64 i 1),y4.1,(y4.2.2.2++[((([]:A0)++[])++[])]))) else some (.next ((bE .i64 i 1),y4.1,y4.2.2.2)))) else some (.out (az,l)))
def js (t:Tree) (gv:Grid):Option (Bv×Int×Int) :=(ko t gv).bind λy=>(bif (neB y 0)then some ((⟨0,[]⟩:Bv),0,y) else (dR t.Hood).bind λy1=>(oS (ce .i64 (bE .i64 gv.W (ce .i64 2 y1)) (bE .i64 gv.H (ce .i64 2 y1))) t.States).bind λy2=>(md t).bind λy3=>(bv (dV gv y1 y2 y3) bL (0,y2.1,y2.2.2)).bind λ(az,l)=>(lK (⟨az,l⟩:Bv)).bind λy4=>(bif (eF y4)then some ((⟨0,[]⟩:Bv),0,6) else some ((⟨az,l⟩:Bv),y2.1,0)))
def lB (t:Tree) (in_:A0) (stt:Int×Int):Option (Lp (Int×Int) (Int)):=match stt with|(k,i)=>(bif (ltB i (br in_))then (idx t.Nodes k).bind λx=>(idx in_ i).bind λx1=>(idx x.Next x1).bind λx2=>some (.next (x2,(bE .i64 i 1))) else some (.out k))
def oV (t:Tree) (in_:A0):As :=(bv (lB t in_) bL ((ck .i64 (br t.Nodes) 1),0)).bind λk=>some k
def jo (t:Tree) (cells:A0) (w r_ x y:Int) (stt:Int×A0):Option (Lp Av (A0)):=match stt with|(k,in_)=>(bif (ltB k (br t.Hood))then (idx t.Hood k).bind λx1=>(idx cells (bE .i64 (bE .i64 (bE .i64 (ce .i64 (bE .i64 (bE .i64 y r_) x1.Y) w) x) r_) x1.X)).bind λx2=>(dq 8 in_ [x2]).bind λ_l=>some (.next ((bE .i64 k 1),(in_++[x2]))) else some (.out in_))
def oL (t:Tree) (cells:A0) (w r_ x y:Int):As :=(bv (jo t cells w r_ x y) bL (0,[])).bind λin_=>(oV t in_).bind λy1=>some y1
def mG (t:Tree) (gv:Grid) (cells:A0) (y stt:Int):Option (Lp (Int) (Bool ⊕ Unit)):=match stt with|i=>(bif (ltB i (br gv.Cells))then (irem i gv.W).bind λn=>(iquo .i64 i gv.W).bind λn1=>(idx t.Hood (ck .i64 (br t.Hood) 1)).bind λx=>((bif (eqB (bE .i64 (bE .i64 (bE .i64 (ce .i64 (bE .i64 (bE .i64 n1 y) x.Y) (bE .i64 gv.W (ce .i64 2 y))) n) y) x.X) (ck .i64 (br cells) 1))then (oL t cells (bE .i64 gv.W (ce .i64 2 y)) y n n1).bind λy1=>(idx gv.Cells i).bind λx1=>some (neB y1 x1) else some false)).bind λa=>(bif a then some (.out (.inl true)) else some (.next (bE .i64 i 1))) else some (.out (.inr ())))
def oN (t:Tree) (gv:Grid) (cells:A0):Ah :=(dR t.Hood).bind λy=>(bv (mG t gv cells y) bL 0).bind λo=>match o with|.inl r=>some r|.inr _u=>some false
def k9 (rcv:(Tree->Grid->A0->Int->Option AD)) (t:Tree) (gv:Grid) (cells:A0) (most:Int) (stt:Int×AD):Option (Lp (Int×AD) (AD)):=match stt with|(s,out)=>((bif (ltB s t.States)then some (ltB (br out) most) else some false)).bind λa=>(bif a then ((dq 8 [] cells).bind λ_l=>(dq 8 ([]++cells) [s]).bind λ_l1=>(oN t gv (([]++cells)++[s])).bind λy1=>(bif (eF y1)then (rcv t gv (([]++cells)++[s]) (ck .i64 most (br out))).bind λy2=>(dq 48 out y2).bind λ_l2=>some (out++y2) else some out)).bind λout1=>some (.next ((bE .i64 s 1),out1)) else some (.out out))
def gr (rcv:(Tree->Grid->A0->Int->Option AD)) (t:Tree) (gv:Grid) (cells:A0) (most:Int):Option AD :=(dR t.Hood).bind λy=>(bif (eqB (br cells) (ce .i64 (bE .i64 gv.W (ce .i64 2 y)) (bE .i64 gv.H (ce .i64 2 y))))then some [(⟨(bE .i64 gv.W (ce .i64 2 y)),(bE .i64 gv.H (ce .i64 2 y)),0,cells⟩:Grid)] else (bv (k9 rcv t gv cells most) bL (0,[])).bind λout=>some out)
def tq (t:Tree) (gv:Grid) (cells:A0) (most:Int):Option AD:=rq gr (λ_ _ _ _=>none) recF t gv cells most
def kl (t:Tree) (gv:Grid):Option (Grid×Bool×Int) :=(js t gv).bind λy=>(bif (neB y.2.2 0)then some ((⟨0,0,0,[]⟩:Grid),false,y.2.2) else (tq t gv [] 1).bind λy1=>(bif (eqB (br y1) 0)then some ((⟨0,0,0,[]⟩:Grid),false,0) else (idx y1 0).bind λx=>some (x,true,0)))
def k6 (t:Tree) (gv:Grid) (edge:Int):Ah :=(sQ t gv).bind λy=>(bif (eF y)then (ng).bind λy1=>some y1 else (d6 t gv).bind λy1=>(kl t gv).bind λy2=>((lQ y1.1 y2.1).bind λy3=>(bif (eF y3)then some true else (bif (eF (eqb y1.2.1 y2.2.1))then some true else some (neB y1.2.2 y2.2.2)))).bind λa=>(bif a then some false else (bif (neB y1.2.2 0)then (ng).bind λy3=>some y3 else (irem edge 3).bind λn=>(d6 t (⟨gv.W,gv.H,(nS .i64 n),gv.Cells⟩:Grid)).bind λy3=>((lQ y3.1 y1.1).bind λy4=>(bif y4 then (bif (eqb y3.2.1 y1.2.1)then (bif (eqB y3.2.2 0)then (ng).bind λy5=>some y5 else some false) else some false) else some false)).bind λa1=>some a1)))
abbrev vI (n:Int):V:=.u (.one (.d (.int .i64 n)))
abbrev dI (n:Int):C:=.d (.int .i64 n)
abbrev vX (k:Nat):V:=.u (.one (.box k 0))
abbrev vO (k:Nat):V:=.u (.one (.own k))
abbrev dL (l:A0):C:=.d (.sl 1 (List.map (rI .i64) l))
abbrev vT (b:Bool):V:=.u (.one (.d (.bool b)))
abbrev dR0 (l:AD):C:=.d (.sl 4 (List.map Grid.row l))
abbrev dR1 (l:Ax):C:=.d (.sl 2 (List.map Node.row l))
abbrev dR2 (l:Az):C:=.d (.sl 2 (List.map Point.row l))
abbrev dR3 (l:AC):C:=.d (.sl 2 (List.map Ba.row l))
abbrev dR5 (l:AA):C:=.d (.sl 2 (List.map Bw.row l))
abbrev qQ (a):=(.row 1 3 (List.map (rI .i64) a):Ob)
abbrev qW (a):=(.row 1 26 (List.map (rS 1 (rI .i64)) a):Ob)
abbrev qX (a:Tree):=(.box [dI a.States,dR2 a.Hood,dR1 a.Nodes]:Ob)
abbrev qY (a) (b) (c) (d) (e) (f) (g):=(.box [dI a,.own b,dI c,dR2 d,dR1 e,dI f,.map g]:Ob)
abbrev qZ (a:Tree):=(.u (.agg [dI a.States,dR2 a.Hood,dR1 a.Nodes]):V)
abbrev qK (a):=(.row 1 135 (List.map (rI .i8) a):Ob)
abbrev qJ (a):=(mOb .str kS (uA Tree.row) a:Ob)
abbrev qH (a:Grid):=(.box [dI a.W,dI a.H,dI a.Edge,dL a.Cells]:Ob)
abbrev qG (a):=(.u (.one (dL a)):V)
abbrev qF (a:Grid):=(.u (.agg [dI a.W,dI a.H,dI a.Edge,dL a.Cells]):V)
abbrev qD (a):=(.row 2 112 (List.map Ba.row a):Ob)
abbrev qA (a):=(.row 2 53 (List.map Node.row a):Ob)
abbrev qB (a):=(.row 3 140 (List.map Bb.row a):Ob)
abbrev qC (a):=(mOb .str kS (uL (L.int .i64)) a:Ob)
abbrev qE (a):=(.d (.sl 1 (List.map (rS 1 (rI .i64)) a)):C)
abbrev qI (a) (b) (c) (d) (e) (f) (g):=(.box [.own a,.map b,.own c,.own d,dI e,.own f,.d (.bool g)]:Ob)
abbrev qL:=(.box [dI 0,.d .nil]:Ob)
abbrev qM (a):=(.row 2 95 (List.map Bw.row a):Ob)
abbrev qN:=(.box [.fn 145 [.box 1000000 0,.box 1000002 0,.box 1000003 0,.box 1000004 0]]:Ob)
abbrev qO:=(.agg [dI 0,.d .nil,.d .nil]:U)
abbrev qP (a) (b):=(.box [dI a,.own b]:Ob)
abbrev qR (a:Node):=(.box [dI a.Level,dL a.Next]:Ob)
abbrev qS (a):=(.u (.one (dR1 a)):V)
abbrev qT (a) (b) (c) (d) (e) (f) (g):=(.box [.opq a,.opq b,.own c,.own d,dI e,.own f,.d (.bool g)]:Ob)
abbrev qU (a):=(.row 1 5 (List.map (rI .u8) a):Ob)
abbrev qV:=(.box [dI 0,dI 0,dI 0,dI 0,.d .nil]:Ob)
abbrev kQ:=(.box [dI 0,.d .nil,.d .nil]:Ob)
abbrev kW (a):=(.row 4 28 (List.map Grid.row a):Ob)
abbrev kX (a:Bz):=(.box [dI a.box.X,dI a.box.Y,dI a.box.W,dI a.box.H,dR5 a.values]:Ob)
abbrev kY (a):=(.u (.one (.d (.sl 1 (List.map rB a)))):V)
abbrev kZ (a) (b) (c) (d) (e):=(qY a 1000001 b c d e 1000002:Ob)
abbrev kK (a):=(.d (.bool a):C)
abbrev kJ (a:Box):=(.box [dI a.X,dI a.Y,dI a.W,dI a.H,.own 5002]:Ob)
abbrev kH (a) (b) (c) (d) (e):=(.u (.one (.fn 141 [.ref [.ref [.any,.any,(.sl 1 (List.map (rI .i8) a)),(.sl 1 (List.map (rI .i64) b)),(.int .i64 c),(.sl 3 (List.map Bb.row d)),(.bool e)] 0] 0])):V)
abbrev kG:=(.box [dI 0,dI 0,dI 0,.d .nil]:Ob)
abbrev kF:=(.u (.one (.fn 130 [.box 1000000 0,.box 1000001 0,.box 1000002 0])):V)
abbrev kD (a) (b) (c):=(.box [dI a,dR2 b,dR1 c]:Ob)
abbrev kA (a) (b) (c) (d) (e):=(.u (.one (.ref [.any,.any,(.sl 1 (List.map (rI .i8) a)),(.sl 1 (List.map (rI .i64) b)),(.int .i64 c),(.sl 3 (List.map Bb.row d)),(.bool e)] 0)):V)
abbrev kB (a:Box):=(.box [dI a.X,dI a.Y,dI a.W,dI a.H,.own 5000]:Ob)
abbrev kC (a):=(.box [dI a]:Ob)
abbrev kE (a) (b):=(.box [.own a,.map b]:Ob)
abbrev kL (a):=(.u (.one (dR2 a)):V)
abbrev kM (a):=(.box [.own a]:Ob)
abbrev kN (a:Box):=(.box [dI a.X,dI a.Y,dI a.W,dI a.H]:Ob)
abbrev kO:=(.row 1 26 (List.map (rS 1 (rI .i64)) []):Ob)
abbrev kP:=(.d (.bool false):C)
abbrev kR (a) (b) (c):=(.agg [dI a,dR2 b,dR1 c]:U)
abbrev kT (a:Bv):=(.u (.one (qE a.Clauses)):V)
abbrev kU (a:Bv):=(.u (.agg [dI a.Vars,qE a.Clauses]):V)
abbrev kV (a) (b) (c):=(.box [dI a,dI b,dI 0,.own c]:Ob)
abbrev jQ:=(.box [dI 0,.own 5001]:Ob)
abbrev jW (a) (b):=(.u (.agg [dI a,.own b]):V)
abbrev jX:=(.u (.one (.d .nil)):V)
abbrev jY:=(.row 3 140 (List.map Bb.row []):Ob)
abbrev jZ (a) (b):=(qI 1000001 1000002 1000003 1000006 a 1000005 b:Ob)
abbrev jK (a) (b) (c):=(.u (.agg [dI a,qE ((⟨b,c⟩:Bv).Clauses)]):V)
abbrev jJ (a:Bu):=(.box [dI a.W,dI a.H,dI a.Gens,dI a.DX,dI a.DY,dL a.Syms]:Ob)
abbrev jH (a):=(.u (.one (.fn 113 [.ref (Node.row a) 0])):V)
abbrev jG (a) (b) (c):=(kV (ck .i64 a (ce .i64 2 b)) (ck .i64 c (ce .i64 2 b)) 5001:Ob)
abbrev jF (a) (b) (c) (d) (e) (f):=(.box [.own a,.map b,.own c,.own d,dI 0,.own e,kK f]:Ob)
abbrev jD (a) (b) (c) (d) (e) (f):=(.box [.opq a,.opq b,.own 1000001,.opq c,dI d,.opq e,kK f]:Ob)
abbrev jA (a):=(.u (.one (.fn 69 [.ref (Tree.row a) 0])):V)
abbrev jB (a):=(.u (.one (.fn 71 [.ref (Tree.row a) 0])):V)
abbrev jC (a):=(.u (.one (.fn 43 [.ref (Tree.row a) 0])):V)
abbrev jE (a:Bv):=(.box [dI a.Vars,qE a.Clauses]:Ob)
abbrev jI (a) (b) (c) (d) (e):=(.agg [dI a,dI b,dI c,dI d,dR5 e]:U)
abbrev jL (a) (b) (c) (d):=(.box [dI a,dI b,dI c,dL d]:Ob)
abbrev jM (a) (b) (c) (d) (e):=(qY a 1000003 b c d e 1000002:Ob)
abbrev jN (a):=(.u (.one (dR0 a)):V)
abbrev jO (a:Tree):=(kR a.States a.Hood a.Nodes:U)
abbrev jP:=(kE 1000001 1000002:Ob)
abbrev jR:=(.u (.one (.fn 110 [])):V)
abbrev jS (a) (b):=(qP (ce .i64 a b) 5002:Ob)
abbrev jT:=(.box [.box 1000000 0]:Ob)
abbrev jU (a) (b):=(jK ((⟨a,b⟩:Bv).Vars) a b:V)
abbrev jV (a) (b):=(qI 1000001 1000002 1000003 1000004 a 1000005 b:Ob)
abbrev zQ (a) (b):=(qI 1000001 1000002 1000003 5002 a 1000005 b:Ob)
