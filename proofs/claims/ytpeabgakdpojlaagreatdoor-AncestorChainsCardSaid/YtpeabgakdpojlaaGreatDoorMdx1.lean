/- Lemmas for the law. -/
import Derived.Test.YtpeabgakdpojlaaGreatDoorAmSt
import Derived.Test.YtpeabgakdpojlaaGreatDoorAmFz
import Derived.Test.YtpeabgakdpojlaaGreatDoorAmOr
import Derived.Test.YtpeabgakdpojlaaGreatDoorAmSi
import Derived.Test.YtpeabgakdpojlaaGreatDoorAmSu
import Derived.Test.YtpeabgakdpojlaaGreatDoorAmZr
namespace Go.Proofs.YtpeabgakdpojlaaGreatDoor
open Go.AM Go.Proofs
theorem pa (k:IntKind) (l:A0) (i:Nat) (x:Int):(List.map (rI k) l).set i [L.int k x]=List.map (rI k) (l.set i x):=by rw[List.map_set];rfl
theorem rsetB (l:Ag) (i:Nat) (x:Bool):(List.map rB l).set i [L.bool x]=List.map rB (l.set i x):=by rw[List.map_set];rfl
structure Point where
 X:Int
 Y:Int
 deriving DecidableEq,Inhabited
def Point.row (x:Point):Ak:=[.int .i64 x.X,.int .i64 x.Y]
theorem Point.row_eq (x:Point):x.row=[.int .i64 x.X,.int .i64 x.Y]:=rfl
def Point.key (x:Point):Key:=.ints [x.X,x.Y]
def Point.ints (x:Point):A0:=[x.X,x.Y]
instance:KeyF Point.key:=⟨λa b h=>by unfold Point.key at h;cases a;cases b;injection h with h;simp only[List.cons.injEq,and_true] at h;simp only[Point.mk.injEq];exact h⟩
structure Node where
 Level:Int
 Next:A0
 deriving DecidableEq,Inhabited
def Node.row (x:Node):Ak:=[.int .i64 x.Level,.sl 1 (List.map (rI .i64) x.Next)]
theorem Node.row_eq (x:Node):x.row=[.int .i64 x.Level,.sl 1 (List.map (rI .i64) x.Next)]:=rfl
structure Tree where
 States:Int
 Hood:List Point
 Nodes:List Node
 deriving DecidableEq,Inhabited
def Tree.row (x:Tree):Ak:=[.int .i64 x.States,.sl 2 (List.map Point.row x.Hood),.sl 2 (List.map Node.row x.Nodes)]
theorem Tree.row_eq (x:Tree):x.row=[.int .i64 x.States,.sl 2 (List.map Point.row x.Hood),.sl 2 (List.map Node.row x.Nodes)]:=rfl
structure Grid where
 W:Int
 H:Int
 Edge:Int
 Cells:A0
 deriving DecidableEq,Inhabited
def Grid.row (x:Grid):Ak:=[.int .i64 x.W,.int .i64 x.H,.int .i64 x.Edge,.sl 1 (List.map (rI .i64) x.Cells)]
theorem Grid.row_eq (x:Grid):x.row=[.int .i64 x.W,.int .i64 x.H,.int .i64 x.Edge,.sl 1 (List.map (rI .i64) x.Cells)]:=rfl
structure Bu where
 W:Int
 H:Int
 Gens:Int
 DX:Int
 DY:Int
 Syms:A0
 deriving DecidableEq,Inhabited
def Bu.row (x:Bu):Ak:=[.int .i64 x.W,.int .i64 x.H,.int .i64 x.Gens,.int .i64 x.DX,.int .i64 x.DY,.sl 1 (List.map (rI .i64) x.Syms)]
theorem Bu.row_eq (x:Bu):x.row=[.int .i64 x.W,.int .i64 x.H,.int .i64 x.Gens,.int .i64 x.DX,.int .i64 x.DY,.sl 1 (List.map (rI .i64) x.Syms)]:=rfl
structure Bv where
 Vars:Int
 Clauses:A1
 deriving DecidableEq,Inhabited
def Bv.row (x:Bv):Ak:=[.int .i64 x.Vars,.sl 1 (List.map (rS 1 (rI .i64)) x.Clauses)]
theorem Bv.row_eq (x:Bv):x.row=[.int .i64 x.Vars,.sl 1 (List.map (rS 1 (rI .i64)) x.Clauses)]:=rfl
structure Box where
 X:Int
 Y:Int
 W:Int
 H:Int
 deriving DecidableEq,Inhabited
def Box.row (x:Box):Ak:=[.int .i64 x.X,.int .i64 x.Y,.int .i64 x.W,.int .i64 x.H]
theorem Box.row_eq (x:Box):x.row=[.int .i64 x.X,.int .i64 x.Y,.int .i64 x.W,.int .i64 x.H]:=rfl
def Box.key (x:Box):Key:=.ints [x.X,x.Y,x.W,x.H]
def Box.ints (x:Box):A0:=[x.X,x.Y,x.W,x.H]
instance:KeyF Box.key:=⟨λa b h=>by unfold Box.key at h;cases a;cases b;injection h with h;simp only[List.cons.injEq,and_true] at h;simp only[Box.mk.injEq];exact h⟩
structure Bw where
 constant:Int
 vars:A0
 deriving DecidableEq,Inhabited
def Bw.row (x:Bw):Ak:=[.int .i64 x.constant,pnil 1 (List.map (rI .i64) x.vars)]
theorem Bw.row_eq (x:Bw):x.row=[.int .i64 x.constant,pnil 1 (List.map (rI .i64) x.vars)]:=rfl
structure Bz where
 box:Box
 values:List Bw
 deriving DecidableEq,Inhabited
def Bz.row (x:Bz):Ak:=[.int .i64 x.box.X,.int .i64 x.box.Y,.int .i64 x.box.W,.int .i64 x.box.H,.sl 2 (List.map Bw.row x.values)]
theorem Bz.row_eq (x:Bz):x.row=[.int .i64 x.box.X,.int .i64 x.box.Y,.int .i64 x.box.W,.int .i64 x.box.H,.sl 2 (List.map Bw.row x.values)]:=rfl
structure Ba where
 State:Int
 Vars:A0
 deriving DecidableEq,Inhabited
def Ba.row (x:Ba):Ak:=[.int .i64 x.State,.sl 1 (List.map (rI .i64) x.Vars)]
theorem Ba.row_eq (x:Ba):x.row=[.int .i64 x.State,.sl 1 (List.map (rI .i64) x.Vars)]:=rfl
structure Bb where
 variable_:Int
 trail:Int
 turned:Bool
 deriving DecidableEq,Inhabited
abbrev AE:=List Node
abbrev AF:=List (A4×Tree)
abbrev AG:=List Point
abbrev AH:=List Bw
abbrev AI:=List Bb
abbrev AJ:=List Ba
abbrev AK:=List Grid
abbrev AL:=Int×Int×Int×Int×AH×Bool×Int×AF×A1
abbrev AN:=Int->A0->AE->AE->Option (Int×A0×AE)
abbrev AO:=AE->A0->Int->A0->AE->Option (A0×AE)
abbrev AP:=Option (A0×AE)
abbrev AQ:=Bool×Int×A1×A2×A0×A0×AI
abbrev AR:=A0×AE×A0
abbrev AS:=Int×A1
abbrev AT:=AH×A1×Int×AF
abbrev AU:=Bool×Int×A1×A2×A0×A0
abbrev AV:=List Ag
abbrev AW:=Option AK
abbrev AX:=Bool×Int×A0×A0×AI
abbrev AY:=A2×A0×Bool×A1×A0
abbrev AZ:=Bool×A0×A1×A2×A0
abbrev B0:=A0×Int×A1×A2×A0
abbrev B1:=Int×Int
abbrev B2:=Option (Unit)
def Bb.row (x:Bb):Ak:=[.int .i64 x.variable_,.int .i64 x.trail,.bool x.turned]
theorem Bb.row_eq (x:Bb):x.row=[.int .i64 x.variable_,.int .i64 x.trail,.bool x.turned]:=rfl
attribute [simp] Point.row_eq Node.row_eq Tree.row_eq Grid.row_eq Bu.row_eq Bv.row_eq Box.row_eq Bw.row_eq Bz.row_eq Ba.row_eq Bb.row_eq
end Go.Proofs.YtpeabgakdpojlaaGreatDoor
namespace Go.Proofs.YtpeabgakdpojlaaGreatDoor
open Go.AM Go.Proofs
def cmpI (a b:Int):Int:=if a<b then -1 else if a>b then 1 else 0
def kj:A0->A0->Int|[],[]=>0|[],_::_=>-1|_::_,[]=>1|x::a,y::b=>if cmpI x y≠0 then cmpI x y else kj a b
def gJ (a b:Grid):Int:=kj a.Cells b.Cells
def fQ (a:Grid):Bool:=decide (a.Cells.length<1000000)
def mI (t:Tree) (_x:Bu) (stt:Int):Option (Lp (Int) (Bool ⊕ Unit)):=match stt with|a1=>(bif (ltB a1 (br t.Nodes))then (idx t.Nodes a1).bind λx1=>(bif (gtB (br x1.Next) 20)then some (.out (.inl false)) else some (.next (bC .i64 a1 1))) else some (.out (.inr ())))
def oQ (t:Tree) (x:Bu):Ah :=((bif (gtB (br t.Nodes) 150)then some true else (bif (gtB (br t.Hood) 9)then some true else (bif (gtB (br x.Syms) 20)then some true else (bif (gtB x.Gens 3)then some (leB x.Gens 6) else some false))))).bind λa=>(bif a then some false else (bv (mI t x) bL 0).bind λo=>match o with
   |.inl r=>some r|.inr _u=>((bif (ltB x.W 1)then some true else (bif (ltB x.H 1)then some true else (bif (gtB x.W 16)then some true else (bif (gtB x.H 16)then some true else (bif (leB (bH .i64 x.W x.H) 9)then some true else some (gtB (bH .i64 x.W x.H) 16))))))).bind λa1=>some a1)
def nO (a b:Point):Ah :=((bif (ltB a.Y b.Y)then some true else (bif (eqB a.Y b.Y)then some (ltB a.X b.X) else some false))).bind λa1=>some a1
def mQ (l:AG) (stt:Int):Option (Lp (Int) (Bool ⊕ Unit)):=match stt with|i=>(bif (ltB i (br l))then (idx l i).bind λx=>((bif (ltB x.X (-2))then some true else (bif (gtB x.X 2)then some true else (bif (ltB x.Y (-2))then some true else (bif (gtB x.Y 2)then some true else (bif (gtB i 0)then (idx l (bZ .i64 i 1)).bind λx1=>(nO x1 x).bind λy=>some (e9 y) else some false)))))).bind λa1=>(bif a1 then some (.out (.inl false)) else some (.next (bC .i64 i 1))) else some (.out (.inr ())))
def nv (l:AG):Ah :=((bif (ltB (br l) 1)then some true else some (gtB (br l) 25))).bind λa=>(bif a then some false else (bv (mQ l) bL 0).bind λo=>match o with
   |.inl r=>some r|.inr _u=>some true)
def lJ (t:Tree) (i:Int) (x:Node) (stt:Int):Option (Lp (Int) (Bool ⊕ Unit)):=match stt with|s=>(bif (ltB s t.States)then (idx x.Next s).bind λx1=>(bif (ltB x1 0)then some (.out (.inl false)) else ((bif (eqB x.Level 1)then some (geB x1 t.States) else some false)).bind λa2=>(bif a2 then some (.out (.inl false)) else ((bif (gtB x.Level 1)then (bif (geB x1 i)then some true else (idx t.Nodes x1).bind λx2=>some (neB x2.Level (bZ .i64 x.Level 1))) else some false)).bind λa3=>(bif a3 then some (.out (.inl false)) else some (.next (bC .i64 s 1))))) else some (.out (.inr ())))
def lF (t:Tree) (stt:Int):Option (Lp (Int) (Bool ⊕ Unit)):=match stt with
 |i=>(bif (ltB i (br t.Nodes))then (idx t.Nodes i).bind λx=>((bif (ltB x.Level 1)then some true else (bif (gtB x.Level (br t.Hood))then some true else some (neB (br x.Next) t.States)))).bind λa1=>(bif a1 then some (.out (.inl false)) else (bv (lJ t i x) bL 0).bind λo=>match o with
     |.inl r=>some (.out (.inl r))|.inr _u=>some (.next (bC .i64 i 1))) else some (.out (.inr ())))
def jt (t:Tree):Ah :=((bif (ltB t.States 2)then some true else (bif (gtB t.States 8)then some true else (nv t.Hood).bind λy=>(bif (e9 y)then some true else (bif (ltB (br t.Nodes) 1)then some true else some (gtB (br t.Nodes) 4096)))))).bind λa=>(bif a then some false else (bv (lF t) bL 0).bind λo=>match o with
   |.inl r=>some r|.inr _u=>(idx t.Nodes (bZ .i64 (br t.Nodes) 1)).bind λx=>some (eqB x.Level (br t.Hood)))
def uo (w hv edge:Int):Ah :=((bif (geB w 1)then (bif (leB w 256)then (bif (geB hv 1)then (bif (leB hv 256)then (bif (leB (bH .i64 w hv) 4096)then (bif (geB edge 0)then some (leB edge 2) else some false) else some false) else some false) else some false) else some false) else some false)).bind λa=>some a
def mO (gv:Grid) (stt:Int):Option (Lp (Int) (Bool ⊕ Unit)):=match stt with|i=>(bif (ltB i (br gv.Cells))then ((idx gv.Cells i).bind λx=>(bif (ltB x 0)then some true else some (geB x 8))).bind λa1=>(bif a1 then some (.out (.inl false)) else some (.next (bC .i64 i 1))) else some (.out (.inr ())))
def l8 (gv:Grid):Ah :=((uo gv.W gv.H gv.Edge).bind λy=>(bif (e9 y)then some true else some (neB (br gv.Cells) (bH .i64 gv.W gv.H)))).bind λa=>(bif a then some false else (bv (mO gv) bL 0).bind λo=>match o with
   |.inl r=>some r|.inr _u=>some true)
def sY (n:Int):Ar :=some (ja n (cA .i64 n))
def ma (l:AG) (stt:Int×Int):Option (Lp B1 (Int)):=match stt with|(n,i)=>(bif (ltB i (br l))then (idx l i).bind λx=>(sY x.X).bind λy1=>(sY x.Y).bind λy2=>some (.next ((ja (ja n y1) y2),(bC .i64 i 1))) else some (.out n))
def dA (l:AG):Ar :=(nv l).bind λy=>(bif (e9 y)then some 0 else (bv (ma l) bL (0,0)).bind λn=>some n)
def ny (t:Tree) (gv:Grid) (y:Int) (stt:Int×Int):Option (Lp B1 (Bool ⊕ Unit)):=match stt with|(n,i)=>((bif (ltB i (bH .i64 (bC .i64 gv.W (bH .i64 2 y)) (bC .i64 gv.H (bH .i64 2 y))))then some (leB (bH .i64 (bC .i64 gv.W (bH .i64 2 y)) (bC .i64 gv.H (bH .i64 2 y))) 16) else some false)).bind λa2=>(bif a2 then (bif (gtB (bH .i64 n t.States) 65536)then some (.out (.inl false)) else some (.next ((bH .i64 n t.States),(bC .i64 i 1)))) else some (.out (.inr ())))
def qf (t:Tree) (gv:Grid):Ah :=((oQ t (⟨0,0,0,0,0,[]⟩:Bu)).bind λy=>(bif (e9 y)then some true else some (gtB (br gv.Cells) 5000))).bind λa=>(bif a then some false else ((jt t).bind λy=>(bif (e9 y)then some true else (l8 gv).bind λy1=>some (e9 y1))).bind λa1=>(bif a1 then some true else (dA t.Hood).bind λy=>(bv (ny t gv y) bL (1,0)).bind λo=>match o with
    |.inl r=>some r|.inr _u=>some true))
def m_L48_shift:Option (Tree) :=some (⟨2,[(⟨(-1),0⟩:Point)],[(⟨1,[0,1]⟩:Node)]⟩:Tree)
def lD (x:Int):Ah :=some (neB x x)
def fK (x y:Int):Ar :=(lD x).bind λy1=>(lD y).bind λy2=>(bif y1 then (bif y2 then some 0 else some (-1)) else (bif y2 then some 1 else (bif (ltB x y)then some (-1) else (bif (gtB x y)then some 1 else some 0))))
def kz (vals:A0) (stt:Int):Option (Lp (Int) (Int ⊕ Unit)):=match stt with|a=>(bif (ltB a (br vals))then (idx vals a).bind λx=>(bif (neB x 0)then some (.out (.inl x)) else some (.next (bC .i64 a 1))) else some (.out (.inr ())))
def nW (vals:A0):Ar :=(bv (kz vals) bL 0).bind λo=>match o with|.inl r=>some r|.inr _u=>some 0
def lC (a b:Point):Ar :=(fK a.Y b.Y).bind λy=>(fK a.X b.X).bind λy1=>(nW [y,y1]).bind λy2=>some y2
def lW (l:AG) (stt:Int):Option (Lp (Int) (Bool ⊕ Unit)):=match stt with|a1=>(bif (ltB a1 (br l))then (idx l a1).bind λx=>((bif (ltB x.X (-2))then some true else (bif (gtB x.X 2)then some true else (bif (ltB x.Y (-2))then some true else (bif (gtB x.Y 2)then some true else (bif (gtB a1 0)then (idx l (bZ .i64 a1 1)).bind λx1=>(lC x1 x).bind λy=>some (geB y 0) else some false)))))).bind λa2=>(bif a2 then some (.out (.inl false)) else some (.next (bC .i64 a1 1))) else some (.out (.inr ())))
def mo (l:AG):Ah :=((bif (ltB (br l) 1)then some true else some (gtB (br l) 25))).bind λa=>(bif a then some false else (bv (lW l) bL 0).bind λo=>match o with
   |.inl r=>some r|.inr _u=>some true)
def kw (t:Tree) (a1:Int) (x:Node) (stt:Int):Option (Lp (Int) (Bool ⊕ Unit)):=match stt with|a3=>(bif (ltB a3 (br x.Next))then (idx x.Next a3).bind λx1=>((bif (ltB x1 0)then some true else (bif (eqB x.Level 1)then (bif (geB x1 t.States)then some true else (bif (gtB x.Level 1)then (bif (geB x1 a1)then some true else (idx t.Nodes x1).bind λx2=>some (neB x2.Level (bZ .i64 x.Level 1))) else some false)) else (bif (gtB x.Level 1)then (bif (geB x1 a1)then some true else (idx t.Nodes x1).bind λx2=>some (neB x2.Level (bZ .i64 x.Level 1))) else some false)))).bind λa4=>(bif a4 then some (.out (.inl false)) else some (.next (bC .i64 a3 1))) else some (.out (.inr ())))
def kx (t:Tree) (stt:Int):Option (Lp (Int) (Bool ⊕ Unit)):=match stt with
 |a1=>(bif (ltB a1 (br t.Nodes))then (idx t.Nodes a1).bind λx=>((bif (ltB x.Level 1)then some true else (bif (gtB x.Level (br t.Hood))then some true else some (neB (br x.Next) t.States)))).bind λa2=>(bif a2 then some (.out (.inl false)) else (bv (kw t a1 x) bL 0).bind λo=>match o with
     |.inl r=>some (.out (.inl r))|.inr _u=>some (.next (bC .i64 a1 1))) else some (.out (.inr ())))
def ir (t:Tree):Ah :=((bif (ltB t.States 2)then some true else (bif (gtB t.States 8)then some true else (mo t.Hood).bind λy=>(bif (e9 y)then some true else (bif (ltB (br t.Nodes) 1)then some true else (bif (gtB (br t.Nodes) 4096)then some true else (idx t.Nodes (bZ .i64 (br t.Nodes) 1)).bind λx=>some (neB x.Level (br t.Hood)))))))).bind λa=>(bif a then some false else (bv (kx t) bL 0).bind λo=>match o with
   |.inl r=>some r|.inr _u=>some true)
def qd (w hv edge:Int):Ah :=((bif (geB w 1)then (bif (leB w 256)then (bif (geB hv 1)then (bif (leB hv 256)then (bif (leB (bH .i64 w hv) 4096)then (bif (geB edge 0)then some (leB edge 2) else some false) else some false) else some false) else some false) else some false) else some false)).bind λa=>some a
def nG (s:Int):Ah :=((bif (ltB s 0)then some true else some (geB s 8))).bind λa=>some a
def cr (s:A0) (stt:Int):Option (Lp (Int) (Int ⊕ Unit)):=match stt with|a=>(bif (ltB a (br s))then (idx s a).bind λx=>(nG x).bind λy=>(bif y then some (.out (.inl a)) else some (.next (bC .i64 a 1))) else some (.out (.inr ())))
def dc (s:A0):Ar :=(bv (cr s) bL 0).bind λo=>match o with|.inl r=>some r|.inr _u=>some (-1)
def cH (s:A0):Ah :=(dc s).bind λy=>some (geB y 0)
def mh (gv:Grid):Ah :=((qd gv.W gv.H gv.Edge).bind λy=>(bif y then (bif (eqB (br gv.Cells) (bH .i64 gv.W gv.H))then (cH gv.Cells).bind λy1=>some (e9 y1) else some false) else some false)).bind λa=>some a
def iM (s:Int) (a:Tree):Ah :=some (geB s a.States)
def bM (s:A0) (cv:Tree) (stt:Int):Option (Lp (Int) (Int ⊕ Unit)):=match stt with|a=>(bif (ltB a (br s))then (idx s a).bind λx=>(iM x cv).bind λy=>(bif y then some (.out (.inl a)) else some (.next (bC .i64 a 1))) else some (.out (.inr ())))
def cE (s:A0) (cv:Tree):Ar :=(bv (bM s cv) bL 0).bind λo=>match o with|.inl r=>some r|.inr _u=>some (-1)
def bV (s:A0) (cv:Tree):Ah :=(cE s cv).bind λy=>some (geB y 0)
def fj (l:AG) (stt:Int×Int):Option (Lp B1 (Int)):=match stt with|(r_,a)=>(bif (ltB a (br l))then (idx l a).bind λx=>some (.next ((ja (ja (ja (ja r_ x.X) (cA .i64 x.X)) x.Y) (cA .i64 x.Y)),(bC .i64 a 1))) else some (.out r_))
def dt (l:AG):Ar :=((mo l).bind λy=>(bif y then (bv (fj l) bL (0,0)).bind λr_=>some r_ else some 0)).bind λr_=>some r_
def cq (l:A0):Ay:=dp 8 [] l
def lT (_x:Int) (next:A0):Ay :=some next
def dy (l:A0) (n base:Int):Ay:=appUM l n base
def eW (i base:Int):Ay :=((bif (ltB i 0)then (dp 1 [] [45]).bind λ_l=>some ((cA .u64 (pK .u64 i)),([]++[45])) else some ((pK .u64 i),[]))).bind λ(u,dst)=>(dy dst u base).bind λy=>some y
def fe (i base:Int):Ay :=(eW i base).bind λy=>some y
def eL (dst:A0) (i base:Int):Ay :=((bif (ltB i 0)then (dp 1 dst [45]).bind λ_l=>some ((cA .u64 (pK .u64 i)),(dst++[45])) else some ((pK .u64 i),dst))).bind λ(u,dst1)=>(dy dst1 u base).bind λy=>some y
def eh (dst:A0) (i base:Int):Ay :=(eL dst i base).bind λy=>some y
def gf (_aA:AE) (_au:Af) (_level:Int) (next:A0) (stt:Int×A0):Option (Lp Av (A0)):=match stt with|(a,keyv)=>(bif (ltB a (br next))then (idx next a).bind λx=>(dp 1 keyv [32]).bind λ_l=>(eh (keyv++[32]) x 10).bind λy1=>some (.next ((bC .i64 a 1),y1)) else some (.out keyv))
def ez (aA:AE) (au:Af) (level:Int) (next:A0):Option (Int×Af×AE) :=(fe level 10).bind λy=>(bv (gf aA au level next) bL (0,y)).bind λkeyv=>(kckS (ofBytes keyv)).bind λ_u=>(bif (dh au (ofBytes keyv))then some ((eG au (ofBytes keyv) 0),au,aA) else (dp 32 aA [(⟨level,next⟩:Node)]).bind λ_l=>some ((bZ .i64 ((br aA)+1) 1),(ga au (ofBytes keyv) (bZ .i64 ((br aA)+1) 1)),(aA++[(⟨level,next⟩:Node)])))
def cQ (l:AG):Option AG:=dp 16 [] l
def cw (rcv:AN) (_k:Int) (a1:AE) (x1:Node) (y:A0) (stt:Int×A0×AE×A0):Option (Lp (Int×A0×AE×A0) (AR)):=match stt with|(a2,l,l2,l1)=>(bif (ltB a2 (br y))then ((idx l a2).bind λx2=>(bif (gtB x1.Level 1)then (rcv x2 l1 a1 l2).bind λy1=>some ((l.set a2.toNat y1.1),y1.2.1,y1.2.2) else some (l,l1,l2))).bind λ(l3,l4,l5)=>some (.next ((bC .i64 a2 1),l3,l5,l4)) else some (.out (l,l2,l1)))
def cD (rcv:AN) (k:Int) (a:A0) (a1 cv:AE):Option (Int×A0×AE) :=(idx a k).bind λx=>(bif (gtB x 0)then some ((bZ .i64 x 1),a,cv) else (idx a1 k).bind λx1=>(cq x1.Next).bind λy=>(bv (cw rcv k a1 x1 y) bL (0,y,cv,a)).bind λ(l,l1,l2)=>(dp 32 l1 [(⟨x1.Level,l⟩:Node)]).bind λ_l3=>(idx l2 k).bind λ_x2=>some ((bZ .i64 ((br l1)+1) 1),(l2.set k.toNat ((br l1)+1)),(l1++[(⟨x1.Level,l⟩:Node)])))
def iS (k:Int) (a:A0) (a1 cv:AE):Option (Int×A0×AE):=rP cD (λ_ _ _ _=>none) recF k a a1 cv
def iI (nodes:AE) (root:Int):Option AE :=(mkL 8 (br nodes) (br nodes) 0).bind λ_l=>(iS root (List.replicate (br nodes).toNat 0) nodes []).bind λy=>some y.2.2
def bW (_t:Tree) (_a:Int) (_mp:Af) (_l:AE) (to_:A0) (x:Node) (y:A0) (stt:Int×A0):Option (Lp Av (A0)):=match stt with|(a1,next)=>(bif (ltB a1 (br y))then ((idx next a1).bind λx1=>(bif (gtB x.Level 1)then (idx to_ x1).bind λx2=>some (next.set a1.toNat x2) else some next)).bind λaS=>some (.next ((bC .i64 a1 1),aS)) else some (.out next))
def cz (t:Tree) (stt:Int×Af×AE×A0):Option (Lp (Int×Af×AE×A0) ((Af×AE×A0))):=match stt with|(a,mp,l,to_)=>(bif (ltB a (br t.Nodes))then (idx t.Nodes a).bind λx=>(cq x.Next).bind λy=>(bv (bW t a mp l to_ x y) bL (0,y)).bind λnext=>(lT x.Level next).bind λy1=>(ez l mp x.Level y1).bind λy2=>(dp 8 to_ [y2.1]).bind λ_l1=>some (.next ((bC .i64 a 1),y2.2.1,y2.2.2,(to_++[y2.1]))) else some (.out (mp,l,to_)))
def di (t:Tree):Option (Tree) :=(bv (cz t) bL (0,[],[],[])).bind λ(_mp,l,to_)=>(cQ t.Hood).bind λy=>(idx to_ (bZ .i64 (br to_) 1)).bind λx=>(iI l x).bind λy1=>some (⟨t.States,y,y1⟩:Tree)
def jl (t:Tree):Option (Tree) :=(ir t).bind λy=>(bif (e9 y)then some (⟨0,[],[]⟩:Tree) else (di t).bind λy1=>some y1)
def lj (states:Int):Ar :=(bif (eqB states 2)then some 1 else ((bif (eqB states 3)then some (eqB states 3) else some (eqB states 4))).bind λa=>(bif a then some 2 else ((bif (gtB states 4)then some (leB states 8) else some false)).bind λa1=>(bif a1 then some 3 else some 0)))
def mf (t:Tree):Option (Int×AG×AE×Int) :=(jl t).bind λy=>(lj t.States).bind λy1=>some (y.States,y.Hood,y.Nodes,y1)
def dJ (_ag:A1) (_aa:Int) (_ae:AG) (_ab:AE) (aq:Int) (_ak:AF) (stt:Int×A0×Int):Option (Lp (Int×A0×Int) ((A0×Int))):=match stt with|(a,l,aj)=>(bif (ltB a aq)then (dp 8 l [(bC .i64 aj 1)]).bind λ_l1=>some (.next ((bC .i64 a 1),(l++[(bC .i64 aj 1)]),(bC .i64 aj 1))) else some (.out (l,aj)))
def e7 (ah:Int) (ag:A1) (aa:Int) (ae:AG) (ab:AE) (aq:Int) (ak:AF):Option (A0×Int) :=(bv (dJ ag aa ae ab aq ak) bL (0,[],ah)).bind λ(l,aj)=>some (l,aj)
def gm (cv:Int) (y:A0) (stt:Int×A0):Option (Lp Av (A0)):=match stt with|(a,l)=>(bif (ltB a (br y))then ((ishr .i64 cv a).bind λn=>(bif (eqB (iand .i64 n 1) 1)then (idx l a).bind λx=>some (l.set a.toNat (cA .i64 x)) else some l)).bind λl1=>some (.next ((bC .i64 a 1),l1)) else some (.out l))
def iF (vars:A0) (cv:Int):Ay :=(cq vars).bind λy=>(bv (gm cv y) bL (0,y)).bind λl=>some l
def dP (_ah:Int) (ag:A1) (_aa:Int) (_ae:AG) (_ab:AE) (_aq:Int) (_ak:AF) (l:A0):B2 :=(dp 24 ag [l]).bind λ_l1=>some ()
def dO (ag:A1) (aa:Int) (ae:AG) (ab:AE) (aq:Int) (ak:AF) (box:Box) (stt:Int×AH×Int):Option (Lp (Int×AH×Int) ((AH×Int))):=match stt with|(a,l,aj)=>(bif (ltB a (bH .i64 box.W box.H))then (e7 aj ag aa ae ab aq ak).bind λy=>(neE y.1).bind λ_u=>(dp 32 l [(⟨0,y.1⟩:Bw)]).bind λ_l1=>some (.next ((bC .i64 a 1),(l++[(⟨0,y.1⟩:Bw)]),y.2)) else some (.out (l,aj)))
def df (aa:Int) (ae:AG) (ab:AE) (aq:Int) (ak:AF) (_box:Box) (_l:AH) (aj _a:Int) (x:Bw) (stt:Int×A1):Option (Lp AS (A1)):=match stt with|(cv,l2)=>(ishl .i64 1 aq).bind λn=>(bif (ltB cv n)then (neE x.vars).bind λ_u=>(iF x.vars cv).bind λy=>(dP aj l2 aa ae ab aq ak y).bind λ_y1=>some (.next ((bC .i64 cv 1),(l2++[y]))) else some (.out l2))
def dR (aa:Int) (ae:AG) (ab:AE) (aq:Int) (ak:AF) (box:Box) (l:AH) (aj:Int) (stt:Int×A1):Option (Lp AS (A1)):=match stt with|(a,l1)=>(bif (ltB a (br l))then (idx l a).bind λx=>(bv (df aa ae ab aq ak box l aj a x) bL (aa,l1)).bind λl2=>some (.next ((bC .i64 a 1),l2)) else some (.out l1))
def fx (ah:Int) (ag:A1) (aa:Int) (ae:AG) (ab:AE) (aq:Int) (ak:AF) (box:Box):Option (AH×A1×Int) :=(bv (dO ag aa ae ab aq ak box) bL (0,[],ah)).bind λ(l,aj)=>(bv (dR aa ae ab aq ak box l aj) bL (0,ag)).bind λl1=>some (l,l1,aj)
def jn (f:Bz) (x y:Int):Option (Bw) :=((bif (ltB (bZ .i64 x f.box.X) 0)then some true else (bif (geB (bZ .i64 x f.box.X) f.box.W)then some true else (bif (ltB (bZ .i64 y f.box.Y) 0)then some true else some (geB (bZ .i64 y f.box.Y) f.box.H))))).bind λa=>(bif a then some (⟨0,[]⟩:Bw) else (idx f.values (bC .i64 (bH .i64 (bZ .i64 y f.box.Y) f.box.W) (bZ .i64 x f.box.X))).bind λx1=>some x1)
def kg (next:A0) (_aU:Int) (_b9:AG) (_aZ:AE) (_a a1:Int) (stt:Int×A0):Option (Lp Av (A0)):=match stt with|(a2,aS)=>(bif (ltB a2 (br next))then ((bif (neB a2 a1)then (idx aS a1).bind λx=>(idx aS a2).bind λ_x1=>some (aS.set a2.toNat x) else some aS)).bind λnext2=>some (.next ((bC .i64 a2 1),next2)) else some (.out aS))
def l9 (level:Int) (next:A0) (aU:Int) (b9:AG) (aZ:AE) (a a1:Int):Ay :=((bif (eqB level (bZ .i64 (br b9) a))then (bv (kg next aU b9 aZ a a1) bL (0,next)).bind λaS=>some aS else some next)).bind λaS=>some aS
def ij (_aA:AE) (_au:Af) (_level:Int) (next:A0) (stt:Int×A0):Option (Lp Av (A0)):=match stt with|(a,keyv)=>(bif (ltB a (br next))then (idx next a).bind λx=>(dp 1 keyv [32]).bind λ_l=>(eh (keyv++[32]) x 10).bind λy1=>some (.next ((bC .i64 a 1),y1)) else some (.out keyv))
def jg (aA:AE) (au:Af) (level:Int) (next:A0):Option (Int×Af×AE) :=(fe level 10).bind λy=>(bv (ij aA au level next) bL (0,y)).bind λkeyv=>(kckS (ofBytes keyv)).bind λ_u=>(bif (dh au (ofBytes keyv))then some ((eG au (ofBytes keyv) 0),au,aA) else (dp 32 aA [(⟨level,next⟩:Node)]).bind λ_l=>some ((bZ .i64 ((br aA)+1) 1),(ga au (ofBytes keyv) (bZ .i64 ((br aA)+1) 1)),(aA++[(⟨level,next⟩:Node)])))
def eV (_t:Tree) (_aG:Int) (_aV:AG) (_aK:AE) (_cv _cv1 _a:Int) (_mp:Af) (_l:AE) (to_:A0) (x:Node) (y:A0) (stt:Int×A0):Option (Lp Av (A0)):=match stt with|(a1,next)=>(bif (ltB a1 (br y))then ((idx next a1).bind λx1=>(bif (gtB x.Level 1)then (idx to_ x1).bind λx2=>some (next.set a1.toNat x2) else some next)).bind λaS=>some (.next ((bC .i64 a1 1),aS)) else some (.out next))
def eO (t:Tree) (aG:Int) (aV:AG) (aK:AE) (cv cv1:Int) (stt:Int×Af×AE×A0):Option (Lp (Int×Af×AE×A0) ((Af×AE×A0))):=match stt with|(a,mp,l,to_)=>(bif (ltB a (br t.Nodes))then (idx t.Nodes a).bind λx=>(cq x.Next).bind λy=>(bv (eV t aG aV aK cv cv1 a mp l to_ x y) bL (0,y)).bind λnext=>(l9 x.Level next aG aV aK cv cv1).bind λy1=>(jg l mp x.Level y1).bind λy2=>(dp 8 to_ [y2.1]).bind λ_l1=>some (.next ((bC .i64 a 1),y2.2.1,y2.2.2,(to_++[y2.1]))) else some (.out (mp,l,to_)))
def fg (t:Tree) (aG:Int) (aV:AG) (aK:AE) (cv cv1:Int):Option (AG×AE) :=(bv (eO t aG aV aK cv cv1) bL (0,[],[],[])).bind λ(_mp,l,to_)=>(cQ t.Hood).bind λy=>(idx to_ (bZ .i64 (br to_) 1)).bind λx=>(iI l x).bind λy1=>some (y,y1)
def ui (t:Tree) (k s:Int):Option (Tree×Int) :=(ir t).bind λy=>(bif (e9 y)then some ((⟨0,[],[]⟩:Tree),11) else ((bif (ltB k 0)then some true else some (geB k (br t.Hood)))).bind λa=>(bif a then some ((⟨0,[],[]⟩:Tree),2) else ((bif (ltB s 0)then some true else some (geB s t.States))).bind λa1=>(bif a1 then some ((⟨0,[],[]⟩:Tree),10) else (fg t t.States t.Hood t.Nodes k s).bind λy1=>some ((⟨t.States,y1.1,y1.2⟩:Tree),0))))
def gU (_ah:Int) (_ag:A1) (_aa:Int) (_ae:AG) (_ab:AE) (_aq:Int) (_ak:AF) (in_:AH) (stt:Int×A0):Option (Lp Av (A0)):=match stt with|(a,keyv)=>(bif (ltB a (br in_))then (idx in_ a).bind λx=>((bif (e9 (isE x.vars))then some 255 else some (pK .u8 x.constant))).bind λk=>(dp 1 keyv [k]).bind λ_l=>some (.next ((bC .i64 a 1),(keyv++[k]))) else some (.out keyv))
def gX (_ah:Int) (_ag:A1) (_aa:Int) (_ae:AG) (_ab:AE) (_aq:Int) (_ak:AF) (in_:AH) (_keyv:A0) (_u:Unit) (stt:Int×Int×AG×AE):Option (Lp (Int×Int×AG×AE) ((Int×AG×AE))):=match stt with|(a,aF,aT,aI)=>(bif (ltB a (br in_))then ((idx in_ a).bind λx=>(bif (isE x.vars)then (ui (⟨aF,aT,aI⟩:Tree) a x.constant).bind λy=>some (y.1.States,y.1.Hood,y.1.Nodes) else some (aF,aT,aI))).bind λ(bm,tHood1,tNodes1)=>some (.next ((bC .i64 a 1),bm,tHood1,tNodes1)) else some (.out (aF,aT,aI)))
def fM (ah:Int) (ag:A1) (aa:Int) (ae:AG) (ab:AE) (aq:Int) (ak:AF) (in_:AH):Option (Int×AG×AE×AF) :=(bv (gU ah ag aa ae ab aq ak in_) bL (0,[])).bind λkeyv=>(kckS (ofBytes keyv)).bind λu=>(bif (dh ak (ofBytes keyv))then (gx ak (ofBytes keyv)).bind λv=>some (v.States,v.Hood,v.Nodes,ak) else (bv (gX ah ag aa ae ab aq ak in_ keyv u) bL (0,aa,ae,ab)).bind λ(aF,aT,aI)=>some (aF,aT,aI,(ga ak (ofBytes keyv) (⟨aF,aT,aI⟩:Tree))))
def gI (n:Int) (a:Node):Ah :=(idx a.Next 0).bind λx=>some (neB n x)
def cb (s:A0) (cv:Node) (stt:Int):Option (Lp (Int) (Int ⊕ Unit)):=match stt with|a=>(bif (ltB a (br s))then (idx s a).bind λx=>(gI x cv).bind λy=>(bif y then some (.out (.inl a)) else some (.next (bC .i64 a 1))) else some (.out (.inr ())))
def cN (s:A0) (cv:Node):Ar :=(bv (cb s cv) bL 0).bind λo=>match o with|.inl r=>some r|.inr _u=>some (-1)
def ck (s:A0) (cv:Node):Ah :=(cN s cv).bind λy=>some (geB y 0)
def cO (s bl:Int) (aNext:A0) (a:AH):Option Av :=(bif (eqB bl 1)then (idx aNext s).bind λx=>some (x,[]) else (idx aNext s).bind λx=>(idx a x).bind λx1=>some (x1.constant,x1.vars))
def ew (_ah:Int) (ag:A1) (_aa:Int) (_ae:AG) (_ab:AE) (_aq:Int) (_ak:AF) (l:A0):B2 :=(dp 24 ag [l]).bind λ_l1=>some ()
def cC (l:A0) (aX:Int) (aQ:A1) (b7:Int) (bc:AG) (b8:AE) (abits:Int) (bj:AF) (a:A0):Option A1 :=(cq a).bind λy=>(dp 8 y l).bind λ_l1=>(ew aX aQ b7 bc b8 abits bj (y++l)).bind λ_y1=>some (aQ++[(y++l)])
def dX (ah aa:Int) (ae:AG) (ab:AE) (aq:Int) (ak:AF) (aM own:A0) (v:Bw) (stt:Int×A1):Option (Lp AS (A1)):=match stt with|(a,l)=>(bif (ltB a (br own))then ((idx own a).bind λx=>(bif (e9 (isE v.vars))then (neE v.vars).bind λ_u=>(idx v.vars a).bind λx1=>(cC [(cA .i64 x),x1] ah l aa ae ab aq ak aM).bind λy=>(cC [x,(cA .i64 x1)] ah y aa ae ab aq ak aM).bind λy1=>some y1 else (ishr .i64 v.constant a).bind λn=>(bif (eqB (iand .i64 n 1) 1)then (cC [x] ah l aa ae ab aq ak aM).bind λy=>some y else (cC [(cA .i64 x)] ah l aa ae ab aq ak aM).bind λy=>some y))).bind λl1=>some (.next ((bC .i64 a 1),l1)) else some (.out l))
def eD (ah:Int) (ag:A1) (aa:Int) (ae:AG) (ab:AE) (aq:Int) (ak:AF) (aM own:A0) (v:Bw):Option A1 :=(bv (dX ah aa ae ab aq ak aM own v) bL (0,ag)).bind λl=>some l
def dx (aa:Int) (ae:AG) (ab:AE) (aq:Int) (ak:AF) (_t:Tree) (_in_:AH) (a:Int) (l1:AH) (x:Node) (x1:Bw) (y1:A0×Int) (x2:Bw) (_u:Unit) (stt:Int×A1):Option (Lp AS (A1)):=match stt with|(a1,l3)=>(bif (ltB a1 (br x.Next))then (neE x1.vars).bind λ_u1=>(iF x1.vars a1).bind λy2=>(cO a1 x.Level x.Next (l1.set a.toNat (⟨x2.constant,y1.1⟩:Bw))).bind λy3=>(eD y1.2 l3 aa ae ab aq ak y2 y1.1 (⟨y3.1,y3.2⟩:Bw)).bind λy4=>some (.next ((bC .i64 a1 1),y4)) else some (.out l3))
def du (aa:Int) (ae:AG) (ab:AE) (aq:Int) (ak:AF) (t:Tree) (in_:AH) (stt:Int×AH×A1×Int):Option (Lp (Int×AH×A1×Int) ((AH×A1×Int))):=match stt with|(a,l1,l2,aj)=>(bif (ltB a (br t.Nodes))then (idx t.Nodes a).bind λx=>(ck x.Next x).bind λy=>(bif (e9 y)then (cO 0 x.Level x.Next l1).bind λy1=>(idx l1 a).bind λ_x1=>some (.next ((bC .i64 a 1),(l1.set a.toNat (⟨y1.1,y1.2⟩:Bw)),l2,aj)) else (idx in_ (bZ .i64 (br t.Hood) x.Level)).bind λx1=>(e7 aj l2 aa ae ab aq ak).bind λy1=>(idx l1 a).bind λx2=>(neE y1.1).bind λu=>(bv (dx aa ae ab aq ak t in_ a l1 x x1 y1 x2 u) bL (0,l2)).bind λl3=>some (.next ((bC .i64 a 1),(l1.set a.toNat (⟨x2.constant,y1.1⟩:Bw)),l3,y1.2))) else some (.out (l1,l2,aj)))
def eX (ah:Int) (ag:A1) (aa:Int) (ae:AG) (ab:AE) (aq:Int) (ak:AF) (t:Tree) (in_:AH):Option (Int×A0×A1×Int) :=(mkL 32 (br t.Nodes) (br t.Nodes) (⟨0,[]⟩:Bw)).bind λ_l=>(bv (du aa ae ab aq ak t in_) bL (0,(List.replicate (br t.Nodes).toNat (⟨0,[]⟩:Bw)),ag,ah)).bind λ(l1,l2,aj)=>(idx l1 (bZ .i64 (br l1) 1)).bind λx=>some (x.constant,x.vars,l2,aj)
def e8 (ah:Int) (ag:A1) (_aa:Int) (_ae:AG) (_ab:AE) (_aq:Int) (_ak:AF):Ah :=((bif (gtB ah 65536)then some true else some (gtB (br ag) 262144))).bind λa=>some a
def dd (_aa:Int) (ae:AG) (_ab:AE) (_aq:Int) (f:Bz) (_box:Box) (_fixed:Bool) (y x:Int) (_l2:AH) (_l3:A1) (_ax:Int) (_mp1:AF) (stt:Int×AH):Option (Lp (Int×AH) (AH)):=match stt with|(a,in_)=>(bif (ltB a (br ae))then (idx ae a).bind λx1=>(jn f (bC .i64 x x1.X) (bC .i64 y x1.Y)).bind λy1=>(dp 32 in_ [y1]).bind λ_l4=>some (.next ((bC .i64 a 1),(in_++[y1]))) else some (.out in_))
def cZ (aa:Int) (ae:AG) (ab:AE) (aq:Int) (f:Bz) (box:Box) (fixed:Bool) (y:Int) (stt:Int×AH×A1×Int×AF):Option (Lp (Int×AH×A1×Int×AF) (AL ⊕ AT)):=match stt with|(x,l2,l3,ax,mp1)=>(bif (ltB x (bC .i64 box.X box.W))then (bv (dd aa ae ab aq f box fixed y x l2 l3 ax mp1) bL (0,[])).bind λin_=>((bif fixed then (fM ax l3 aa ae ab aq mp1 in_).bind λy1=>some (y1.1,y1.2.1,y1.2.2.1,y1.2.2.2) else some (aa,ae,ab,mp1))).bind λ(aF,aT,aI,mp2)=>(eX ax l3 aa ae ab aq mp2 (⟨aF,aT,aI⟩:Tree) in_).bind λy1=>(dp 32 l2 [(⟨y1.1,y1.2.1⟩:Bw)]).bind λ_l4=>(e8 y1.2.2.2 y1.2.2.1 aa ae ab aq mp2).bind λy2=>(bif y2 then some (.out (.inl (0,0,0,0,[],false,y1.2.2.2,mp2,y1.2.2.1))) else some (.next ((bC .i64 x 1),(l2++[(⟨y1.1,y1.2.1⟩:Bw)]),y1.2.2.1,y1.2.2.2,mp2))) else some (.out (.inr (l2,l3,ax,mp1))))
def dQ (aa:Int) (ae:AG) (ab:AE) (aq:Int) (f:Bz) (box:Box) (fixed:Bool) (stt:Int×AH×A1×Int×AF):Option (Lp (Int×AH×A1×Int×AF) (AL ⊕ AT)):=match stt with
 |(y,l,l1,aj,mp)=>(bif (ltB y (bC .i64 box.Y box.H))then (bv (cZ aa ae ab aq f box fixed y) bL (box.X,l,l1,aj,mp)).bind λo=>match o with
    |.inl r=>some (.out (.inl r))|.inr (l2,l3,ax,mp1)=>some (.next ((bC .i64 y 1),l2,l3,ax,mp1)) else some (.out (.inr (l,l1,aj,mp))))
def fv (ah:Int) (ag:A1) (aa:Int) (ae:AG) (ab:AE) (aq:Int) (ak:AF) (f:Bz) (box:Box) (fixed:Bool):Option AL :=(bv (dQ aa ae ab aq f box fixed) bL (box.Y,[],ag,ah,ak)).bind λo=>match o with|.inl r=>some r|.inr (l,l1,aj,mp)=>some (box.X,box.Y,box.W,box.H,l,true,aj,mp,l1)
def ff (ah aa:Int) (ae:AG) (ab:AE) (aq:Int) (ak:AF) (vars:A0) (cv:Int) (stt:Int×A1):Option (Lp AS (A1)):=match stt with|(a,l)=>(bif (ltB a (br vars))then (idx vars a).bind λx=>((ishr .i64 cv a).bind λn=>(bif (eqB (iand .i64 n 1) 0)then some (cA .i64 x) else some x)).bind λv=>(dP ah l aa ae ab aq ak [v]).bind λ_y=>some (.next ((bC .i64 a 1),(l++[[v]]))) else some (.out l))
def fG (ah:Int) (ag:A1) (aa:Int) (ae:AG) (ab:AE) (aq:Int) (ak:AF) (vars:A0) (cv:Int):Option A1 :=(bv (ff ah aa ae ab aq ak vars cv) bL (0,ag)).bind λl=>some l
def fD (_ah:Int) (ag:A1) (_aa:Int) (_ae:AG) (_ab:AE) (_aq:Int) (_ak:AF):B2 :=(dp 24 ag [[]]).bind λ_l=>some ()
def fo (gv:Grid) (y3:Int) (y4:Int×AG×AE×Int) (y5:AH×A1×Int) (stt:Int×AF×Int×A1):Option (Lp (Int×AF×Int×A1) ((Bv×Int×Int) ⊕ (AF×Int×A1))):=match stt with|(a,mp,ah,l)=>(bif (ltB a (br gv.Cells))then (idx gv.Cells a).bind λx=>(irem a gv.W).bind λn=>(iquo .i64 a gv.W).bind λn1=>(fv ah l y4.1 y4.2.1 y4.2.2.1 y4.2.2.2 mp (⟨⟨(⟨(cA .i64 y3),(cA .i64 y3),(bC .i64 gv.W (bH .i64 2 y3)),(bC .i64 gv.H (bH .i64 2 y3))⟩:Box).X,(⟨(cA .i64 y3),(cA .i64 y3),(bC .i64 gv.W (bH .i64 2 y3)),(bC .i64 gv.H (bH .i64 2 y3))⟩:Box).Y,(⟨(cA .i64 y3),(cA .i64 y3),(bC .i64 gv.W (bH .i64 2 y3)),(bC .i64 gv.H (bH .i64 2 y3))⟩:Box).W,(⟨(cA .i64 y3),(cA .i64 y3),(bC .i64 gv.W (bH .i64 2 y3)),(bC .i64 gv.H (bH .i64 2 y3))⟩:Box).H⟩,y5.1⟩:Bz) (⟨n,n1,1,1⟩:Box) false).bind λy6=>(bif (e9 y6.2.2.2.2.2.1)then some (.out (.inl ((⟨0,[]⟩:Bv),0,6))) else (idx y6.2.2.2.2.1 0).bind λx1=>(bif (e9 (isE x1.vars))then (neE x1.vars).bind λ_u=>(fG y6.2.2.2.2.2.2.1 y6.2.2.2.2.2.2.2.2 y4.1 y4.2.1 y4.2.2.1 y4.2.2.2 y6.2.2.2.2.2.2.2.1 x1.vars x).bind λy7=>some (.next ((bC .i64 a 1),y6.2.2.2.2.2.2.2.1,y6.2.2.2.2.2.2.1,y7)) else (bif (neB x1.constant x)then (fD y6.2.2.2.2.2.2.1 y6.2.2.2.2.2.2.2.2 y4.1 y4.2.1 y4.2.2.1 y4.2.2.2 y6.2.2.2.2.2.2.2.1).bind λ_y7=>some (.next ((bC .i64 a 1),y6.2.2.2.2.2.2.2.1,y6.2.2.2.2.2.2.1,(y6.2.2.2.2.2.2.2.2++[[]]))) else some (.next ((bC .i64 a 1),y6.2.2.2.2.2.2.2.1,y6.2.2.2.2.2.2.1,y6.2.2.2.2.2.2.2.2))))) else some (.out (.inr (mp,ah,l))))
def eS (t:Tree) (gv:Grid):Option (Bv×Int×Int) :=(ir t).bind λy=>(bif (e9 y)then some ((⟨0,[]⟩:Bv),0,11) else (mh gv).bind λy1=>(bif (e9 y1)then some ((⟨0,[]⟩:Bv),0,2) else (bV gv.Cells t).bind λy2=>(bif y2 then some ((⟨0,[]⟩:Bv),0,10) else (dt t.Hood).bind λy3=>(bif (gtB (bH .i64 (bC .i64 gv.W (bH .i64 2 y3)) (bC .i64 gv.H (bH .i64 2 y3))) 16)then some ((⟨0,[]⟩:Bv),0,6) else (mf t).bind λy4=>(fx 0 [] y4.1 y4.2.1 y4.2.2.1 y4.2.2.2 [] (⟨(cA .i64 y3),(cA .i64 y3),(bC .i64 gv.W (bH .i64 2 y3)),(bC .i64 gv.H (bH .i64 2 y3))⟩:Box)).bind λy5=>(bv (fo gv y3 y4 y5) bL (0,[],y5.2.2,y5.2.1)).bind λo=>match o with
      |.inl r=>some r|.inr (mp,ah,l)=>(e8 ah l y4.1 y4.2.1 y4.2.2.1 y4.2.2.2 mp).bind λy6=>(bif y6 then some ((⟨0,[]⟩:Bv),0,6) else some ((⟨ah,l⟩:Bv),y5.2.2,0))))))
def fT (_f:Bv) (n bits:Int) (stt:Int×A0):Option (Lp Av (A0)):=match stt with|(a,vars)=>(bif (ltB a (br (List.replicate n.toNat ())))then (iquo .i64 a bits).bind λn1=>(irem a bits).bind λn2=>(idx vars a).bind λ_x=>some (.next ((bC .i64 a 1),(vars.set a.toNat (bZ .i64 (bZ .i64 (bC .i64 (bH .i64 n1 bits) bits) 1) n2)))) else some (.out vars))
def fS (_f:Bv) (n:Int) (vars:A0) (_a:Int) (_l1:A1) (x:A0) (stt:Int×A0):Option (Lp Av (A0)):=match stt with|(a1,l3)=>(bif (ltB a1 (br x))then (idx x a1).bind λx1=>((bif (leB (ja x1 (cA .i64 x1)) n)then (idx vars (bZ .i64 (ja x1 (cA .i64 x1)) 1)).bind λx2=>some (bC .i64 x2 1) else some (ja x1 (cA .i64 x1)))).bind λv=>((bif (ltB x1 0)then some (cA .i64 v) else some v)).bind λv1=>(idx l3 a1).bind λ_x2=>some (.next ((bC .i64 a1 1),(l3.set a1.toNat v1))) else some (.out l3))
def f7 (f:Bv) (n:Int) (vars:A0) (stt:Int×A1):Option (Lp AS (A1)):=match stt with|(a,l1)=>(bif (ltB a (br f.Clauses))then (idx f.Clauses a).bind λx=>(mkL 8 (br x) (br x) 0).bind λ_l2=>(bv (fS f n vars a l1 x) bL (0,(List.replicate (br x).toNat 0))).bind λl3=>(dp 24 l1 [l3]).bind λ_l4=>some (.next ((bC .i64 a 1),(l1++[l3]))) else some (.out l1))
def jx (f:Bv) (n bits:Int):Option (Bv×A0) :=(mkL 8 n n 0).bind λ_l=>(bv (fT f n bits) bL (0,(List.replicate n.toNat 0))).bind λvars=>(bv (f7 f n vars) bL (0,[])).bind λl1=>some ((⟨f.Vars,l1⟩:Bv),vars)
def iT (vars:Int) (l:A0) (stt:Int):Option (Lp (Int) (Bool ⊕ Unit)):=match stt with|a=>(bif (ltB a (br l))then (idx l a).bind λx=>((bif (eqB x 0)then some true else (bif (gtB x vars)then some true else some (ltB x (cA .i64 vars))))).bind λa1=>(bif a1 then some (.out (.inl false)) else some (.next (bC .i64 a 1))) else some (.out (.inr ())))
def ky (vars:Int) (l:A0):Ah :=(bv (iT vars l) bL 0).bind λo=>match o with|.inl r=>some r|.inr _u=>some true
def ju (f:Bv) (stt:Int):Option (Lp (Int) (Bool ⊕ Unit)):=match stt with|a1=>(bif (ltB a1 (br f.Clauses))then (idx f.Clauses a1).bind λx=>(ky f.Vars x).bind λy=>(bif (e9 y)then some (.out (.inl false)) else some (.next (bC .i64 a1 1))) else some (.out (.inr ())))
def jh (f:Bv):Ah :=((bif (ltB f.Vars 0)then some true else (bif (gtB f.Vars 65536)then some true else some (gtB (br f.Clauses) 262144)))).bind λa=>(bif a then some false else (bv (ju f) bL 0).bind λo=>match o with
   |.inl r=>some r|.inr _u=>some true)
def gM (l:A0):Ay:=sortIM l
def fN (l:A0):Option (A0×Nat):=cmpIM l
def f9 (ar _aw:A0) (_edone:Int) (_am:AI) (_ebad:Bool) (x:Int):Ar :=(bif (ltB x 0)then (idx ar (cA .i64 x)).bind λx1=>some (cA .i8 x1) else (idx ar x).bind λx1=>some x1)
def dN (ar aw:A0) (_edone:Int) (_ebad:Bool) (x:Int):Ay :=((bif (gtB x 0)then (idx ar x).bind λ_x1=>some (ar.set x.toNat 1) else (idx ar (cA .i64 x)).bind λ_x1=>some (ar.set (cA .i64 x).toNat (-1)))).bind λl=>(dp 8 aw [x]).bind λ_l1=>some l
def ec (_f:Bv) (_a:Int) (_l1:A0) (_ebad:Bool) (l2:A1) (_l3:A0) (y2:A0×Nat) (_u:Unit) (stt:Int×A2):Option (Lp (Int×A2) (A2)):=match stt with|(a1,mp1)=>(bif (ltB a1 (lenP 0 2))then (idxP (y2.1.take y2.2) 0 2 a1).bind λx1=>(kckL [x1]).bind λ_u1=>(dp 8 (eG mp1 x1 []) [(br l2)]).bind λ_l5=>some (.next ((bC .i64 a1 1),(ga (js mp1 x1) x1 ((eG mp1 x1 [])++[(br l2)])))) else some (.out mp1))
def ea (f:Bv) (stt:Int×A2×A0×Bool×A1×A0):Option (Lp (Int×A2×A0×Bool×A1×A0) (AY)):=match stt with|(a,mp,l1,ebad,l2,l3)=>(bif (ltB a (br f.Clauses))then (idx f.Clauses a).bind λx=>(cq x).bind λy=>(gM y).bind λy1=>(fN y1).bind λy2=>(bif (eqB (br (y2.1.take y2.2)) 0)then some (.next ((bC .i64 a 1),mp,l1,true,l2,l3)) else (bif (eqB (br (y2.1.take y2.2)) 1)then (idx (y2.1.take y2.2) 0).bind λx1=>(f9 l1 l3 0 [] ebad x1).bind λy3=>(bif (eqB y3 (-1))then some (.next ((bC .i64 a 1),mp,l1,true,l2,l3)) else (bif (eqB y3 0)then (dN l1 l3 0 ebad x1).bind λy4=>some (.next ((bC .i64 a 1),mp,y4,ebad,l2,(l3++[x1]))) else some (.next ((bC .i64 a 1),mp,l1,ebad,l2,l3)))) else (dp 24 l2 [(y2.1.take y2.2)]).bind λ_l4=>(rl (y2.1.take y2.2) 0 2).bind λu=>(bv (ec f a l1 ebad l2 l3 y2 u) bL (0,mp)).bind λmp1=>some (.next ((bC .i64 a 1),mp1,l1,ebad,(l2++[(y2.1.take y2.2)]),l3)))) else some (.out (mp,l1,ebad,l2,l3)))
def gL (f:Bv):Option AY :=(mkL 1 (bC .i64 f.Vars 1) (bC .i64 f.Vars 1) 0).bind λ_l=>(bv (ea f) bL (0,([]:A2),(List.replicate (bC .i64 f.Vars 1).toNat 0),false,([]:A1),[])).bind λ(mp,l1,ebad,l2,l3)=>some (mp,l1,ebad,l2,l3)
def io (y:Int) (ba bg:A0) (bi:Int) (aW:AI) (abad:Bool):Ah :=(f9 ba bg bi aW abad y).bind λy1=>some (neB y1 (-1))
def bP (s aJ aP:A0) (aY:Int) (aB:AI) (bf:Bool) (stt:Int):Option (Lp (Int) (Int ⊕ Unit)):=match stt with|a=>(bif (ltB a (br s))then (idx s a).bind λx=>(io x aJ aP aY aB bf).bind λy=>(bif y then some (.out (.inl a)) else some (.next (bC .i64 a 1))) else some (.out (.inr ())))
def cg (s aJ aP:A0) (aY:Int) (aB:AI) (bf:Bool):Ar :=(bv (bP s aJ aP aY aB bf) bL 0).bind λo=>match o with|.inl r=>some r|.inr _u=>some (-1)
def cS (ay:A2) (edone:Int) (am:AI) (ebad:Bool) (x:Int) (_u:Unit) (stt:Nat×Int×A0×A0×A1×A2×A0):Option (Lp (Nat×Int×A0×A0×A1×A2×A0) (AZ ⊕ (Nat×A0×A0×A1×A2×A0))):=match stt with|(n,a,old,l2,l,mp,l1)=>(bif (ltB a (br (eG ay x [])))then (idx old a).bind λx1=>(idx l x1).bind λx2=>((idx x2 0).bind λx3=>(bif (eqB x3 x)then (idx x2 1).bind λx4=>(idx (x2.set 0 x4) 1).bind λ_x5=>some ((x2.set 0 x4).set 1 x3) else some x2)).bind λcv=>(idx cv 0).bind λx3=>(f9 l1 l2 edone am ebad x3).bind λy=>(bif (eqB y 1)then (lenK old (n+1)).bind λ_u2=>some (.next ((n+1),(bC .i64 a 1),(iJ old n [x1]),l2,(l.set x1.toNat cv),mp,l1)) else (rl cv 2 cv.length).bind λ_u2=>(cg (subL cv 2 cv.length) l1 l2 edone am ebad).bind λy1=>(bif (geB y1 0)then (idx cv (bC .i64 y1 2)).bind λx4=>(idx cv 1).bind λx5=>(idx (cv.set 1 x4) (bC .i64 y1 2)).bind λ_x6=>(idx ((cv.set 1 x4).set (bC .i64 y1 2).toNat x5) 1).bind λx7=>(kckL [x7]).bind λ_u3=>(ckB (neB x x7)).bind λ_u4=>(dp 8 (eG mp x7 []) [x1]).bind λ_l3=>some (.next (n,(bC .i64 a 1),old,l2,(l.set x1.toNat ((cv.set 1 x4).set (bC .i64 y1 2).toNat x5)),(ga (js mp x7) x7 ((eG mp x7 [])++[x1])),l1)) else (lenK old (n+1)).bind λ_u3=>(bif (eqB y (-1))then (rl (iJ old n [x1]) (bC .i64 a 1) (iJ old n [x1]).length).bind λ_u4=>(lenK (iJ old n [x1]) ((n+1)+(subL (iJ old n [x1]) ((bC .i64 a 1).toNat) ((iJ old n [x1]).length)).length)).bind λ_u5=>(kckL [x]).bind λ_u6=>(ckB (dh mp x)).bind λ_u7=>(lenK (iJ (iJ old n [x1]) (n+1) (subL (iJ old n [x1]) ((bC .i64 a 1).toNat) ((iJ old n [x1]).length))) ((n+1)+(subL (iJ old n [x1]) ((bC .i64 a 1).toNat) ((iJ old n [x1]).length)).length)).bind λ_u8=>some (.out (.inl (false,l2,(l.set x1.toNat cv),(ga mp x ((iJ (iJ old n [x1]) (n+1) (subL (iJ old n [x1]) ((bC .i64 a 1).toNat) ((iJ old n [x1]).length))).take ((n+1)+(subL (iJ old n [x1]) ((bC .i64 a 1).toNat) ((iJ old n [x1]).length)).length))),l1))) else (dN l1 l2 edone ebad x3).bind λy2=>some (.next ((n+1),(bC .i64 a 1),(iJ old n [x1]),(l2++[x3]),(l.set x1.toNat cv),mp,y2))))) else some (.out (.inr (n,old,l2,l,mp,l1))))
def eT (aO:A1) (ay:A2) (ar aw:A0) (edone:Int) (am:AI) (ebad:Bool) (x:Int):Option AZ :=(kckL [x]).bind λu=>(rl (eG ay x []) 0 0).bind λ_u1=>(bv (cS ay edone am ebad x u) bL (0,0,(eG ay x []),aw,aO,(js ay x),ar)).bind λo=>match o with|.inl r=>some r|.inr (n,l,l1,l2,mp,l3)=>(ckB (dh mp x)).bind λ_u2=>(lenK l n).bind λ_u3=>some (true,l1,l2,(ga mp x (l.take n)),l3)
def ch (am:AI) (ebad:Bool) (stt:A0×Int×A1×A2×A0):Option (Lp B0 (AU ⊕ B0)):=match stt with|(l2,aL,l,mp,l1)=>(bif (ltB aL (br l2))then (idx l2 aL).bind λx=>(eT l mp l1 l2 aL am ebad (cA .i64 x)).bind λy=>(bif (e9 y.1)then some (.out (.inl (false,aL,y.2.2.1,y.2.2.2.1,y.2.2.2.2,y.2.1))) else some (.next (y.2.1,(bC .i64 aL 1),y.2.2.1,y.2.2.2.1,y.2.2.2.2))) else some (.out (.inr (l2,aL,l,mp,l1))))
def dF (aO:A1) (ay:A2) (ar aw:A0) (edone:Int) (am:AI) (ebad:Bool):Option AU :=(bv (ch am ebad) bL (aw,edone,aO,ay,ar)).bind λo=>match o with|.inl r=>some r|.inr (l,bdone,l1,mp,l2)=>some (true,bdone,l1,mp,l2,l)
def dC (aw:A0) (_edone:Int) (_am:AI) (_ebad:Bool) (x:Bb) (stt:Int×A0):Option (Lp Av (A0)):=match stt with|(a,l)=>(bif (ltB a (lenP x.trail.toNat aw.length))then (idxP aw x.trail.toNat aw.length a).bind λx1=>(idx l (ja x1 (cA .i64 x1))).bind λ_x2=>some (.next ((bC .i64 a 1),(l.set (ja x1 (cA .i64 x1)).toNat 0))) else some (.out l))
def gj (ar aw:A0) (edone:Int) (am:AI) (ebad:Bool):Option (Int×Int×Bool×A0×A0) :=(idx am (bZ .i64 (br am) 1)).bind λx=>(rl am 0 (bZ .i64 (br am) 1)).bind λ_u2=>(rl aw x.trail aw.length).bind λ_u3=>(bv (dC aw edone am ebad x) bL (0,ar)).bind λl=>(rl aw 0 x.trail).bind λ_u4=>some (x.variable_,x.trail,x.turned,(aw.take x.trail.toNat),l)
def ey (ar aw:A0) (edone:Int) (am:AI) (ebad:Bool) (x:Int) (turned:Bool):Ay :=(dp 24 am [(⟨(ja x (cA .i64 x)),(br aw),turned⟩:Bb)]).bind λ_l=>(dN ar aw edone ebad x).bind λy=>some y
def cX (ebad:Bool) (n:Int) (stt:A0×AI×Int×A0):Option (Lp (A0×AI×Int×A0) (AX ⊕ (A0×AI×Int×A0))):=match stt with|(l1,l2,aL,l)=>(bif (gtB (br l2) 0)then (gj l l1 aL l2 ebad).bind λy=>((bif (e9 y.2.2.1)then some (leB y.1 n) else some false)).bind λa=>(bif a then (ey y.2.2.2.2 y.2.2.2.1 y.2.1 (l2.take ((bZ .i64 (br l2) 1).toNat)) ebad y.1 true).bind λy1=>some (.out (.inl (true,y.2.1,y1,(y.2.2.2.1++[y.1]),((l2.take ((bZ .i64 (br l2) 1).toNat))++[(⟨(ja y.1 (cA .i64 y.1)),(br y.2.2.2.1),true⟩:Bb)])))) else some (.next (y.2.2.2.1,(l2.take ((bZ .i64 (br l2) 1).toNat)),y.2.1,y.2.2.2.2))) else some (.out (.inr (l1,l2,aL,l))))
def eg (ar aw:A0) (edone:Int) (am:AI) (ebad:Bool) (n:Int):Option AX :=(bv (cX ebad n) bL (aw,am,edone,ar)).bind λo=>match o with|.inl r=>some r|.inr (l,l1,bdone,l2)=>some (false,bdone,l2,l,l1)
def cB (ar:A0) (ebad:Bool) (l3:AI) (y:Bool×Int×A1×A2×A0×A0) (stt:Int):Option (Lp (Int) ((AI×A0×A0) ⊕ Unit)):=match stt with|v=>(bif (leB v (bZ .i64 (br ar) 1))then (idx y.2.2.2.2.1 v).bind λx=>(bif (eqB x 0)then (ey y.2.2.2.2.1 y.2.2.2.2.2 y.2.1 l3 ebad (cA .i64 v) false).bind λy1=>some (.out (.inl ((l3++[(⟨(ja (cA .i64 v) (cA .i64 (cA .i64 v))),(br y.2.2.2.2.2),false⟩:Bb)]),(y.2.2.2.2.2++[(cA .i64 v)]),y1))) else some (.next (bC .i64 v 1))) else some (.out (.inr ())))
def ce (ar:A0) (ebad:Bool) (stt:A0×AI×Int×A1×A2×A0):Option (Lp (A0×AI×Int×A1×A2×A0) (AQ)):=match stt with
 |(l2,l3,aL,l,mp,l1)=>(dF l mp l1 l2 aL l3 ebad).bind λy=>(bif (e9 y.1)then (eg y.2.2.2.2.1 y.2.2.2.2.2 y.2.1 l3 ebad (bZ .i64 (br ar) 1)).bind λy1=>(bif (e9 y1.1)then some (.out (false,y1.2.1,y.2.2.1,y.2.2.2.1,y1.2.2.1,y1.2.2.2.1,y1.2.2.2.2)) else some (.next (y1.2.2.2.1,y1.2.2.2.2,y1.2.1,y.2.2.1,y.2.2.2.1,y1.2.2.1))) else (bv (cB ar ebad l3 y) bL 1).bind λo=>match o with
    |.inl (l4,l5,l6)=>some (.next (l5,l4,y.2.1,y.2.2.1,y.2.2.2.1,l6))|.inr _u=>some (.out (true,y.2.1,y.2.2.1,y.2.2.2.1,y.2.2.2.2.1,y.2.2.2.2.2,l3)))
def db (aO:A1) (ay:A2) (ar aw:A0) (edone:Int) (am:AI) (ebad:Bool):Option AQ :=(bif ebad then some (false,edone,aO,ay,ar,aw,am) else (bv (ce ar ebad) loopG (aw,am,edone,aO,ay,ar)).bind λr=>some r)
def dq (ar:A0) (_edone:Int) (_ebad:Bool) (n:Int) (stt:Int×Ag):Option (Lp (Int×Ag) (Ag)):=match stt with|(a,out)=>(bif (ltB a (br (List.replicate n.toNat ())))then (idx ar (bC .i64 a 1)).bind λx=>(idx out a).bind λ_x1=>some (.next ((bC .i64 a 1),(out.set a.toNat (eqB x 1)))) else some (.out out))
def eN (ar:A0) (edone:Int) (ebad:Bool) (n:Int):Option Ag :=(mkL 1 n n false).bind λ_l=>(bv (dq ar edone ebad n) bL (0,(List.replicate n.toNat false))).bind λout=>some out
def lG (f:Bv):Option (Ag×Bool×Int) :=(jh f).bind λy=>(bif (e9 y)then some ([],false,2) else (gL f).bind λy1=>(db y1.2.2.2.1 y1.1 y1.2.1 y1.2.2.2.2 0 [] y1.2.2.1).bind λy2=>(bif (e9 y2.1)then some ([],false,0) else (eN y2.2.2.2.2.1 y2.2.1 y1.2.2.1 f.Vars).bind λy3=>some (y3,true,0)))
def iH (t:Tree) (gv:Grid):Option (Int×Int×Int) :=(dt t.Hood).bind λy=>(lj t.States).bind λy1=>(some ()).bind λ_u=>some (y1,(bC .i64 gv.W (bH .i64 2 y)),(bC .i64 gv.H (bH .i64 2 y)))
def gO (l:Ag) (vars:A0) (stt:Int×Ag):Option (Lp (Int×Ag) (Ag)):=match stt with|(a,out)=>(bif (ltB a (br vars))then (idx vars a).bind λx=>(idx l x).bind λx1=>(idx out a).bind λ_x2=>some (.next ((bC .i64 a 1),(out.set a.toNat x1))) else some (.out out))
def lB (l:Ag) (vars:A0):Option Ag :=(mkL 1 (br vars) (br vars) false).bind λ_l1=>(bv (gO l vars) bL (0,(List.replicate (br vars).toNat false))).bind λout=>some out
def pA (l:Ag) (stt:Int×Int):Option (Lp B1 (Int)):=match stt with|(n,a)=>(bif (ltB a (br l))then ((idx l a).bind λx=>(bif x then (ishl .i64 1 a).bind λn1=>some (ior .i64 n n1) else some n)).bind λn1=>some (.next (n1,(bC .i64 a 1))) else some (.out n))
def mP (l:Ag):Ar :=(bif (gtB (br l) 8)then some 0 else (bv (pA l) bL (0,0)).bind λn=>some n)
def dD (l:Ag) (a a1 a2:Int) (stt:Int×A0):Option (Lp Av (A0)):=match stt with|(a3,l1)=>(bif (ltB a3 (bH .i64 a a1))then (slcL l (bH .i64 a3 a2) (bH .i64 (bC .i64 a3 1) a2)).bind λl2=>(mP l2).bind λy=>(dp 8 l1 [y]).bind λ_l3=>some (.next ((bC .i64 a3 1),(l1++[y]))) else some (.out l1))
def dr (l:Ag) (a a1 a2:Int):Ay :=(bv (dD l a a1 a2) bL (0,[])).bind λl1=>some l1
def d9 (t:Tree) (gv:Grid):Option (Grid×Bool×Int) :=(eS t gv).bind λy=>(bif (neB y.2.2 0)then some ((⟨0,0,0,[]⟩:Grid),false,y.2.2) else (lj t.States).bind λy1=>(jx y.1 y.2.1 y1).bind λy2=>(lG y2.1).bind λy3=>((bif (neB y3.2.2 0)then some true else some (e9 y3.2.1))).bind λa=>(bif a then some ((⟨0,0,0,[]⟩:Grid),false,y3.2.2) else (iH t gv).bind λy4=>(lB y3.1 y2.2).bind λy5=>(dr y5 y4.2.1 y4.2.2 y4.1).bind λy6=>some ((⟨y4.2.1,y4.2.2,0,y6⟩:Grid),true,0)))
def sw (n most:Int) (y:A2×A0×Bool×A1×A0) (stt:Bool×A2×A0×Int×A1×AV×A0×AI):Option (Lp (Bool×A2×A0×Int×A1×AV×A0×AI) ((AV×Int) ⊕ AV)):=match stt with|(ok,mp,l,edone,l1,out,l2,l3)=>(bif ok then (bif (geB (br out) most)then some (.out (.inl ([],14))) else (eN l edone y.2.2.1 n).bind λy2=>(dp 24 out [y2]).bind λ_l4=>(eg l l2 edone l3 y.2.2.1 n).bind λy3=>(bif y3.1 then (db l1 mp y3.2.2.1 y3.2.2.2.1 y3.2.1 y3.2.2.2.2 y.2.2.1).bind λy4=>some (.next (y4.1,y4.2.2.2.1,y4.2.2.2.2.1,y4.2.1,y4.2.2.1,(out++[y2]),y4.2.2.2.2.2.1,y4.2.2.2.2.2.2)) else some (.next (false,mp,y3.2.2.1,y3.2.1,l1,(out++[y2]),y3.2.2.2.1,y3.2.2.2.2)))) else some (.out (.inr out)))
def m_solve_All (f:Bv) (n most:Int):Option (AV×Int) :=((jh f).bind λy=>(bif (e9 y)then some true else (bif (ltB n 0)then some true else (bif (gtB n f.Vars)then some true else (bif (ltB most 0)then some true else some (gtB most 262144)))))).bind λa=>(bif a then some ([],2) else (gL f).bind λy=>(db y.2.2.2.1 y.1 y.2.1 y.2.2.2.2 0 [] y.2.2.1).bind λy1=>(bv (sw n most y) bL (y1.1,y1.2.2.2.1,y1.2.2.2.2.1,y1.2.1,y1.2.2.1,[],y1.2.2.2.2.2.1,y1.2.2.2.2.2.2)).bind λo=>match o with
   |.inl r=>some r|.inr out=>some (out,0))
def dG (sv1 sv2:A0) (stt:Int):Option (Lp (Int) (Int ⊕ Unit)):=match stt with|a=>(bif (ltB a (br sv1))then (idx sv1 a).bind λx=>(bif (geB a (br sv2))then some (.out (.inl 1)) else (idx sv2 a).bind λx1=>(fK x x1).bind λy=>(bif (neB y 0)then some (.out (.inl y)) else some (.next (bC .i64 a 1)))) else some (.out (.inr ())))
def gy (sv1 sv2:A0):Ar :=(bv (dG sv1 sv2) bL 0).bind λo=>match o with|.inl r=>some r|.inr _u=>(bif (ltB (br sv1) (br sv2))then some (-1) else some 0)
def my (a b:Grid):Ar :=(gy a.Cells b.Cells).bind λy=>some y
def d8 (l:AK):AW:=sortR fQ gJ l
def oG (y1:AV×Int) (y2:Int×Int×Int) (stt:Int×AK):Option (Lp (Int×AK) (AK)):=match stt with|(a1,out)=>(bif (ltB a1 (br y1.1))then (idx y1.1 a1).bind λx=>(dr x y2.2.1 y2.2.2 y2.1).bind λy3=>(dp 48 out [(⟨y2.2.1,y2.2.2,0,y3⟩:Grid)]).bind λ_l=>some (.next ((bC .i64 a1 1),(out++[(⟨y2.2.1,y2.2.2,0,y3⟩:Grid)]))) else some (.out out))
def nV (t:Tree) (gv:Grid) (most:Int):Option (AK×Int) :=(eS t gv).bind λy=>(bif (neB y.2.2 0)then some ([],y.2.2) else ((bif (ltB most 1)then some true else some (gtB most 5000))).bind λa=>(bif a then some ([],2) else (m_solve_All y.1 y.2.1 most).bind λy1=>(bif (neB y1.2 0)then some ([],y1.2) else (iH t gv).bind λy2=>(bv (oG y1 y2) bL (0,[])).bind λout=>(d8 out).bind λy3=>some (y3,0))))
def lR (s:Int) (a:Tree):Ah :=some (geB s a.States)
def cm (s:A0) (cv:Tree) (stt:Int):Option (Lp (Int) (Int ⊕ Unit)):=match stt with|a=>(bif (ltB a (br s))then (idx s a).bind λx=>(lR x cv).bind λy=>(bif y then some (.out (.inl a)) else some (.next (bC .i64 a 1))) else some (.out (.inr ())))
def d6 (s:A0) (cv:Tree):Ar :=(bv (cm s cv) bL 0).bind λo=>match o with|.inl r=>some r|.inr _u=>some (-1)
def cy (s:A0) (cv:Tree):Ah :=(d6 s cv).bind λy=>some (geB y 0)
def jk (t:Tree) (gv:Grid):Ar :=(ir t).bind λy=>(bif (e9 y)then some 11 else (mh gv).bind λy1=>(bif (e9 y1)then some 2 else (cy gv.Cells t).bind λy2=>(bif y2 then some 10 else some 0)))
def sL (s:Int) (a:Tree):Ah :=((bif (ltB s 0)then some true else some (geB s a.States))).bind λa1=>some a1
def ef (s:A0) (cv:Tree) (stt:Int):Option (Lp (Int) (Int ⊕ Unit)):=match stt with|a=>(bif (ltB a (br s))then (idx s a).bind λx=>(sL x cv).bind λy=>(bif y then some (.out (.inl a)) else some (.next (bC .i64 a 1))) else some (.out (.inr ())))
def eF (s:A0) (cv:Tree):Ar :=(bv (ef s cv) bL 0).bind λo=>match o with|.inl r=>some r|.inr _u=>some (-1)
def dZ (s:A0) (cv:Tree):Ah :=(eF s cv).bind λy=>some (geB y 0)
def ql (t:Tree) (in_:A0) (stt:Int×Int):Option (Lp B1 (Int)):=match stt with|(k,a)=>(bif (ltB a (br in_))then (idx in_ a).bind λx=>(idx t.Nodes k).bind λx1=>(idx x1.Next x).bind λx2=>some (.next (x2,(bC .i64 a 1))) else some (.out k))
def tS (t:Tree) (in_:A0):Ar :=(bv (ql t in_) bL ((bZ .i64 (br t.Nodes) 1),0)).bind λk=>some k
def m_tree_Eval (t:Tree) (in_:A0):Option B1 :=(ir t).bind λy=>(bif (e9 y)then some (0,11) else (bif (neB (br in_) (br t.Hood))then some (0,2) else (dZ in_ t).bind λy1=>(bif y1 then some (0,10) else (tS t in_).bind λy2=>some (y2,0))))
def ng (t:Tree) (gv:Grid) (y1 a1 a2:Int) (_l1:A0) (stt:Int×A0):Option (Lp Av (A0)):=match stt with|(a3,in_)=>(bif (ltB a3 (br t.Hood))then (idx t.Hood a3).bind λx=>(idx gv.Cells (bC .i64 (bC .i64 (bC .i64 (bH .i64 (bC .i64 (bC .i64 a1 y1) x.Y) gv.W) a2) y1) x.X)).bind λx1=>(dp 8 in_ [x1]).bind λ_l2=>some (.next ((bC .i64 a3 1),(in_++[x1]))) else some (.out in_))
def nn (t:Tree) (gv:Grid) (y1 a1:Int) (stt:Int×A0):Option (Lp Av (A0)):=match stt with|(a2,l1)=>(bif (ltB a2 (bZ .i64 gv.W (bH .i64 2 y1)))then (bv (ng t gv y1 a1 a2 l1) bL (0,[])).bind λin_=>(m_tree_Eval t in_).bind λy2=>(dp 8 l1 [y2.1]).bind λ_l2=>some (.next ((bC .i64 a2 1),(l1++[y2.1]))) else some (.out l1))
def nc (t:Tree) (gv:Grid) (y1:Int) (stt:Int×A0):Option (Lp Av (A0)):=match stt with|(a1,l)=>(bif (ltB a1 (bZ .i64 gv.H (bH .i64 2 y1)))then (bv (nn t gv y1 a1) bL (0,l)).bind λl1=>some (.next ((bC .i64 a1 1),l1)) else some (.out l))
def oE (t:Tree) (gv:Grid):Option (Grid×Int) :=(jk t gv).bind λy=>(bif (neB y 0)then some ((⟨0,0,0,[]⟩:Grid),y) else (dt t.Hood).bind λy1=>((bif (ltB (bZ .i64 gv.W (bH .i64 2 y1)) 1)then some true else some (ltB (bZ .i64 gv.H (bH .i64 2 y1)) 1))).bind λa=>(bif a then some ((⟨0,0,0,[]⟩:Grid),6) else (bv (nc t gv y1) bL (0,[])).bind λl=>some ((⟨(bZ .i64 gv.W (bH .i64 2 y1)),(bZ .i64 gv.H (bH .i64 2 y1)),0,l⟩:Grid),0)))
def dT (t:Tree) (n:Int) (stt:Int×Int×Int×A0×AK):Option (Lp (Int×Int×Int×A0×AK) (AK)):=match stt with|(gW,gH,b0,aR,out)=>(bif (ltB (br out) n)then (d9 t (⟨gW,gH,b0,aR⟩:Grid)).bind λy1=>((bif (eqB y1.2.2 6)then some true else some (e9 y1.2.1))).bind λa1=>(bif a1 then some (.out out) else (dp 48 out [y1.1]).bind λ_l=>some (.next (y1.1.W,y1.1.H,y1.1.Edge,y1.1.Cells,(out++[y1.1])))) else some (.out out))
def fw (t:Tree) (gv:Grid) (n:Int):Option (AK×Int) :=(jk t gv).bind λy=>(bif (neB y 0)then some ([],y) else ((bif (ltB n 0)then some true else some (gtB n 100))).bind λa=>(bif a then some ([],2) else (bv (dT t n) bL (gv.W,gv.H,gv.Edge,gv.Cells,[])).bind λout=>some (out,0)))
def nH (a b:Grid) (stt:Int):Option (Lp (Int) (Bool ⊕ Unit)):=match stt with|i=>(bif (ltB i (br a.Cells))then (idx a.Cells i).bind λx=>(idx b.Cells i).bind λx1=>(bif (neB x x1)then some (.out (.inl false)) else some (.next (bC .i64 i 1))) else some (.out (.inr ())))
def nt (a b:Grid):Ah :=((bif (neB a.W b.W)then some true else (bif (neB a.H b.H)then some true else (bif (neB a.Edge b.Edge)then some true else some (neB (br a.Cells) (br b.Cells)))))).bind λa1=>(bif a1 then some false else (bv (nH a b) bL 0).bind λo=>match o with
   |.inl r=>some r|.inr _u=>some true)
def m0:Ah :=(m_L48_shift).bind λy=>(d9 y (⟨1,1,0,[1]⟩:Grid)).bind λy1=>(nV y (⟨1,1,0,[1]⟩:Grid) 256).bind λy2=>(nV y (⟨1,1,0,[1]⟩:Grid) 255).bind λy3=>(oE y y1.1).bind λy4=>(d9 (⟨2,[(⟨0,0⟩:Point)],[(⟨1,[1,1]⟩:Node)]⟩:Tree) (⟨1,1,0,[0]⟩:Grid)).bind λy5=>(fw y (⟨1,1,0,[1]⟩:Grid) 5).bind λy6=>(d9 (⟨0,[],[]⟩:Tree) (⟨1,1,0,[1]⟩:Grid)).bind λy7=>((bif y1.2.1 then (bif (eqB y1.2.2 0)then (nt y1.1 (⟨3,3,0,[0,0,0,1,0,0,0,0,0]⟩:Grid)).bind λy8=>(bif y8 then (bif (eqB y2.2 0)then (bif (eqB (br y2.1) 256)then (bif (eqB y3.2 14)then (bif (eqB y4.2 0)then (nt y4.1 (⟨1,1,0,[1]⟩:Grid)).bind λy9=>(bif y9 then (bif (e9 y5.2.1)then (bif (eqB y5.2.2 0)then (bif (eqB y6.2 0)then (bif (eqB (br y6.1) 1)then some (eqB y7.2.2 11) else some false) else some false) else some false) else some false) else some false) else some false) else some false) else some false) else some false) else some false) else some false) else some false)).bind λa=>some a
def mK (t:Tree) (gv:Grid) (stt:Int):Option (Lp (Int) (Int ⊕ Unit)):=match stt with|i=>(bif (ltB i (br gv.Cells))then (idx gv.Cells i).bind λx=>(bif (geB x t.States)then some (.out (.inl 10)) else some (.next (bC .i64 i 1))) else some (.out (.inr ())))
def l7 (t:Tree) (gv:Grid):Ar :=(jt t).bind λy=>(bif (e9 y)then some 11 else (l8 gv).bind λy1=>(bif (e9 y1)then some 2 else (bv (mK t gv) bL 0).bind λo=>match o with
    |.inl r=>some r|.inr _u=>(dA t.Hood).bind λy2=>(bif (gtB (bH .i64 (bC .i64 gv.W (bH .i64 2 y2)) (bC .i64 gv.H (bH .i64 2 y2))) 16)then some 6 else some 0)))
def oL (states:Int):Ar :=(bif (eqB states 2)then some 1 else ((bif (eqB states 3)then some true else some (eqB states 4))).bind λa=>(bif a then some 2 else ((bif (geB states 5)then some (leB states 8) else some false)).bind λa1=>(bif a1 then some 3 else some 0)))
def og (n k:Int):Ar :=(ishr .i64 n (pK .u64 k)).bind λn1=>some (iand .i64 n1 1)
def lA (p:A0) (cv:Int) (stt:Int×A0):Option (Lp Av (A0)):=match stt with|(jv,out)=>(bif (ltB jv (br p))then ((og cv jv).bind λy=>(bif (eqB y 1)then (idx p jv).bind λx=>(dp 8 out [(cA .i64 x)]).bind λ_l=>some (out++[(cA .i64 x)]) else (idx p jv).bind λx=>(dp 8 out [x]).bind λ_l=>some (out++[x]))).bind λout1=>some (.next ((bC .i64 jv 1),out1)) else some (.out out))
def lK (p:A0) (cv:Int):Ay :=(bv (lA p cv) bL (0,[])).bind λout=>some out
def gu (_az:Int) (aD:A1) (l:A0):B2 :=(dp 8 [] l).bind λ_l1=>(dp 8 ([]++l) []).bind λ_l2=>(dp 24 aD [(([]++l)++[])]).bind λ_l3=>some ()
def jy (_n _states y i:Int) (_l:A1) (_out:AJ) (stt:Int×A0):Option (Lp Av (A0)):=match stt with|(k,l1)=>(bif (leB k y)then (dp 8 l1 [(bC .i64 (bH .i64 i y) k)]).bind λ_l2=>some (.next ((bC .i64 k 1),(l1++[(bC .i64 (bH .i64 i y) k)]))) else some (.out l1))
def kd (n _states y _i:Int) (_out:AJ) (l1:A0) (stt:Int×A1):Option (Lp AS (A1)):=match stt with|(cv,l2)=>(ishl .i64 1 (pK .u64 y)).bind λn1=>(bif (ltB cv n1)then (lK l1 cv).bind λy1=>(gu (bH .i64 n y) l2 y1).bind λ_y2=>some (.next ((bC .i64 cv 1),(l2++[(([]++y1)++[])]))) else some (.out l2))
def lI (n states y:Int) (stt:Int×A1×AJ):Option (Lp (Int×A1×AJ) ((A1×AJ))):=match stt with|(i,l,out)=>(bif (ltB i n)then (bv (jy n states y i l out) bL (1,[])).bind λl1=>(bv (kd n states y i out l1) bL (states,l)).bind λl2=>(dp 32 out [(⟨0,l1⟩:Ba)]).bind λ_l3=>some (.next ((bC .i64 i 1),l2,(out++[(⟨0,l1⟩:Ba)]))) else some (.out (l,out)))
def oX (n states:Int):Option (Int×AJ×A1) :=(oL states).bind λy=>(bv (lI n states y) bL (0,[],[])).bind λ(l,out)=>some ((bH .i64 n y),out,l)
def mj (a b:A0) (stt:Int):Option (Lp (Int) (Bool ⊕ Unit)):=match stt with|i=>(bif (ltB i (br a))then (idx a i).bind λx=>(idx b i).bind λx1=>(bif (neB x x1)then some (.out (.inl false)) else some (.next (bC .i64 i 1))) else some (.out (.inr ())))
def rF (a b:A0):Ah :=(bif (neB (br a) (br b))then some false else (bv (mj a b) bL 0).bind λo=>match o with
   |.inl r=>some r|.inr _u=>some true)
def eI (l:AE) (i:Int) (av:A0) (_nexts:A1) (stt:Int×A0):Option (Lp Av (A0)):=match stt with|(s,next)=>(idx l i).bind λx=>(bif (ltB s (br x.Next))then (idx x.Next s).bind λx1=>((bif (gtB x.Level 1)then (idx av x1).bind λx2=>some x2 else some x1)).bind λk=>(dp 8 next [k]).bind λ_l1=>some (.next ((bC .i64 s 1),(next++[k]))) else some (.out next))
def ji (l:AE) (i:Int) (_av:A0) (nexts:A1) (next:A0) (stt:Int×Int):Option (Lp B1 (Int)):=match stt with|(first,jv)=>(bif (geB jv 0)then (((idx l jv).bind λx=>(idx l i).bind λx1=>(bif (eqB x.Level x1.Level)then (idx nexts jv).bind λx2=>(rF x2 next).bind λy=>some y else some false)).bind λa=>(bif a then some jv else some first)).bind λfirst1=>some (.next (first1,(bZ .i64 jv 1))) else some (.out first))
def gT (l:AE) (stt:Int×A0×A1):Option (Lp (Int×A0×A1) (A0)):=match stt with|(i,av,nexts)=>(bif (ltB i (br l))then (bv (eI l i av nexts) bL (0,[])).bind λnext=>(bv (ji l i av nexts next) bL (i,(bZ .i64 i 1))).bind λfirst=>(dp 8 av [first]).bind λ_l1=>(dp 24 nexts [next]).bind λ_l2=>some (.next ((bC .i64 i 1),(av++[first]),(nexts++[next]))) else some (.out av))
def mX (l:AE):Ay :=(bv (gT l) bL (0,[],[])).bind λav=>some av
def eR (rcv:AO) (l:AE) (av:A0) (i:Int) (_out:AE) (x1:Node) (stt:Int×A0×AE×A0):Option (Lp (Int×A0×AE×A0) (AR)):=match stt with|(s,l1,out1,aN)=>(idx l i).bind λx2=>(bif (ltB s (br x2.Next))then (idx x2.Next s).bind λx3=>((bif (gtB x1.Level 1)then (idx av x3).bind λx4=>(rcv l av x4 aN out1).bind λy=>(idx y.1 x4).bind λx5=>some (x5,y.2,y.1) else some (x3,out1,aN))).bind λ(k,out2,done2)=>(dp 8 l1 [k]).bind λ_l2=>some (.next ((bC .i64 s 1),(l1++[k]),out2,done2)) else some (.out (l1,out1,aN)))
def fZ (rcv:AO) (l:AE) (av:A0) (i:Int) (done:A0) (out:AE):AP :=(idx done i).bind λx=>(bif (geB x 0)then some (done,out) else (idx l i).bind λx1=>(bv (eR rcv l av i out x1) bL (0,[],out,done)).bind λ(l1,out1,aN)=>(idx aN i).bind λ_x2=>(dp 32 out1 [(⟨x1.Level,l1⟩:Node)]).bind λ_l2=>some ((aN.set i.toNat (br out1)),(out1++[(⟨x1.Level,l1⟩:Node)])))
def m_R13_walk_o_o (l:AE) (av:A0) (i:Int) (done:A0) (out:AE):AP:=rP fZ (λ_ _ _ _ _=>none) recF l av i done out
def oH (l:AE) (av:A0) (i:Int) (x1:Node) (stt:Int×A0×AE×A0):Option (Lp (Int×A0×AE×A0) (AR)):=match stt with|(s,l1,out,aN)=>(idx l i).bind λx2=>(bif (ltB s (br x2.Next))then (idx x2.Next s).bind λx3=>((bif (gtB x1.Level 1)then (idx av x3).bind λx4=>(m_R13_walk_o_o l av x4 aN out).bind λy=>(idx y.1 x4).bind λx5=>some (x5,y.2,y.1) else some (x3,out,aN))).bind λ(k,out1,done2)=>(dp 8 l1 [k]).bind λ_l2=>some (.next ((bC .i64 s 1),(l1++[k]),out1,done2)) else some (.out (l1,out,aN)))
def pC (_rcv:(AE->A0->Int->A0->AP)) (l:AE) (av:A0) (i:Int) (done:A0):AP :=(idx done i).bind λx=>(bif (geB x 0)then some (done,[]) else (idx l i).bind λx1=>(bv (oH l av i x1) bL (0,[],[],done)).bind λ(l1,out,aN)=>(idx aN i).bind λ_x2=>(dp 32 out [(⟨x1.Level,l1⟩:Node)]).bind λ_l2=>some ((aN.set i.toNat (br out)),(out++[(⟨x1.Level,l1⟩:Node)])))
def rj (l:AE) (av:A0) (i:Int) (done:A0):AP:=rP pC (λ_ _ _ _=>none) recF l av i done
def jj (l:AE) (_y:A0) (stt:Int×A0):Option (Lp Av (A0)):=match stt with|(i,done)=>(bif (ltB i (br l))then (dp 8 done [(-1)]).bind λ_l1=>some (.next ((bC .i64 i 1),(done++[(-1)]))) else some (.out done))
def mN (l:AE):Option AE :=(mX l).bind λy=>(bv (jj l y) bL (0,[])).bind λdone=>(idx y (bZ .i64 (br l) 1)).bind λx=>(rj l y x done).bind λy1=>some y1.2
def mz (t:Tree):Option (Tree) :=(jt t).bind λy=>(bif (e9 y)then some (⟨0,[],[]⟩:Tree) else (mN t.Nodes).bind λy1=>some (⟨t.States,t.Hood,y1⟩:Tree))
def me (f:Bv):Ah :=((bif (leB f.Vars 65536)then some (leB (br f.Clauses) 262144) else some false)).bind λa=>some a
def lL (l:A0) (stt:Int):Option (Lp (Int) (Bool ⊕ Unit)):=match stt with|i=>(bif (ltB i (br l))then (idx l i).bind λx=>(idx l 0).bind λx1=>(bif (neB x x1)then some (.out (.inl false)) else some (.next (bC .i64 i 1))) else some (.out (.inr ())))
def pc (l:A0):Ah :=(bv (lL l) bL 1).bind λo=>match o with|.inl r=>some r|.inr _u=>some true
def gG (_az:Int) (aD:A1) (l more:A0):B2 :=(dp 8 [] l).bind λ_l1=>(dp 8 ([]++l) more).bind λ_l2=>(dp 24 aD [(([]++l)++more)]).bind λ_l3=>some ()
def gn (t:Tree) (_in_:AJ) (_y _i _aH:Int) (_l:A1) (of_:AJ) (x:Node) (stt:Int×AJ):Option (Lp (Int×AJ) (AJ)):=match stt with|(s,kids)=>(bif (ltB s t.States)then ((bif (eqB x.Level 1)then (idx x.Next s).bind λx1=>(dp 32 kids [(⟨x1,[]⟩:Ba)]).bind λ_l1=>some (kids++[(⟨x1,[]⟩:Ba)]) else (idx x.Next s).bind λx1=>(idx of_ x1).bind λx2=>(dp 32 kids [x2]).bind λ_l1=>some (kids++[x2]))).bind λkids1=>some (.next ((bC .i64 s 1),kids1)) else some (.out kids))
def gr (_t:Tree) (_in_:AJ) (y _i:Int) (_l:A1) (_of_:AJ) (_x:Node) (_kids:AJ) (stt:Int×Int×A0):Option (Lp (Int×Int×A0) (Av)):=match stt with|(k,aC,l1)=>(bif (ltB k y)then (dp 8 l1 [(bC .i64 aC 1)]).bind λ_l2=>some (.next ((bC .i64 k 1),(bC .i64 aC 1),(l1++[(bC .i64 aC 1)]))) else some (.out (aC,l1)))
def iB (_t:Tree) (_in_:AJ) (y _i:Int) (_of_:AJ) (_x:Node) (kids:AJ) (aC:Int) (l1:A0) (s:Int) (y2:A0) (stt:Int×A1):Option (Lp AS (A1)):=match stt with|(k,l4)=>(bif (ltB k y)then ((idx kids s).bind λx2=>(bif (gtB (br x2.Vars) 0)then (idx l1 k).bind λx3=>(idx x2.Vars k).bind λx4=>(gG aC l4 y2 [(cA .i64 x3),x4]).bind λ_y3=>(gG aC (l4++[(([]++y2)++[(cA .i64 x3),x4])]) y2 [x3,(cA .i64 x4)]).bind λ_y4=>some ((l4++[(([]++y2)++[(cA .i64 x3),x4])])++[(([]++y2)++[x3,(cA .i64 x4)])]) else (og x2.State k).bind λy3=>(bif (eqB y3 1)then (idx l1 k).bind λx3=>(gG aC l4 y2 [x3]).bind λ_y4=>some (l4++[(([]++y2)++[x3])]) else (idx l1 k).bind λx3=>(gG aC l4 y2 [(cA .i64 x3)]).bind λ_y4=>some (l4++[(([]++y2)++[(cA .i64 x3)])])))).bind λl5=>some (.next ((bC .i64 k 1),l5)) else some (.out l4))
def iC (t:Tree) (in_:AJ) (y i:Int) (of_:AJ) (x:Node) (kids:AJ) (aC:Int) (l1:A0) (stt:Int×A1):Option (Lp AS (A1)):=match stt with|(s,l3)=>(bif (ltB s t.States)then (idx in_ (bZ .i64 (br t.Hood) x.Level)).bind λx1=>(lK x1.Vars s).bind λy2=>(bv (iB t in_ y i of_ x kids aC l1 s y2) bL (0,l3)).bind λl4=>some (.next ((bC .i64 s 1),l4)) else some (.out l3))
def gt (t:Tree) (in_:AJ) (y:Int) (stt:Int×Int×A1×AJ):Option (Lp (Int×Int×A1×AJ) ((Int×A1×AJ))):=match stt with|(i,aH,l,of_)=>((bif (ltB i (br t.Nodes))then (me (⟨aH,l⟩:Bv)).bind λy1=>some y1 else some false)).bind λa=>(bif a then (idx t.Nodes i).bind λx=>(bv (gn t in_ y i aH l of_ x) bL (0,[])).bind λkids=>(pc x.Next).bind λy1=>(bif y1 then (idx kids 0).bind λx1=>(dp 32 of_ [x1]).bind λ_l1=>some (.next ((bC .i64 i 1),aH,l,(of_++[x1]))) else (bv (gr t in_ y i l of_ x kids) bL (0,aH,[])).bind λ(aC,l1)=>(dp 32 of_ [(⟨0,l1⟩:Ba)]).bind λ_l2=>(bv (iC t in_ y i of_ x kids aC l1) bL (0,l)).bind λl3=>some (.next ((bC .i64 i 1),aC,l3,(of_++[(⟨0,l1⟩:Ba)])))) else some (.out (aH,l,of_)))
def md (az:Int) (aD:A1) (t:Tree) (in_:AJ):Option (Int×Int×A0×A1) :=(oL t.States).bind λy=>(bv (gt t in_ y) bL (0,az,aD,[])).bind λ(aH,l,of_)=>(me (⟨aH,l⟩:Bv)).bind λy1=>(bif (e9 y1)then some (aH,0,[],l) else (idx of_ (bZ .i64 (br of_) 1)).bind λx=>some (aH,x.State,x.Vars,l))
def mR (az:Int) (l:A0) (n:Int) (stt:Int×A1):Option (Lp AS (A1)):=match stt with|(k,l1)=>(bif (ltB k (br l))then ((og n k).bind λy=>(bif (eqB y 1)then (idx l k).bind λx=>(gu az l1 [x]).bind λ_y1=>some (l1++[(([]++[x])++[])]) else (idx l k).bind λx=>(gu az l1 [(cA .i64 x)]).bind λ_y1=>some (l1++[(([]++[(cA .i64 x)])++[])]))).bind λl2=>some (.next ((bC .i64 k 1),l2)) else some (.out l1))
def pb (az:Int) (aD:A1) (l:A0) (n:Int):Option A1 :=(bv (mR az l n) bL (0,aD)).bind λl1=>some l1
def iP (_az:Int) (aD:A1):B2 :=(dp 8 ([]:A0) []).bind λ_l=>(dp 8 (([]:A0)++[]) []).bind λ_l1=>(dp 24 aD [((([]:A0)++[])++[])]).bind λ_l2=>some ()
def gP (gv:Grid) (y1:Int) (y2:Int×AJ×A1) (y3:Tree) (_i _az:Int) (_l:A1) (n n1:Int) (stt:Int×AJ):Option (Lp (Int×AJ) (AJ)):=match stt with|(k,in_)=>(bif (ltB k (br y3.Hood))then (idx y3.Hood k).bind λx=>(idx y2.2.1 (bC .i64 (bC .i64 (bH .i64 (bC .i64 (bC .i64 n1 y1) x.Y) (bC .i64 gv.W (bH .i64 2 y1))) (bC .i64 n y1)) x.X)).bind λx1=>(dp 32 in_ [x1]).bind λ_l1=>some (.next ((bC .i64 k 1),(in_++[x1]))) else some (.out in_))
def dV (gv:Grid) (y1:Int) (y2:Int×AJ×A1) (y3:Tree) (stt:Int×Int×A1):Option (Lp (Int×Int×A1) (AS)):=match stt with|(i,az,l)=>((bif (ltB i (br gv.Cells))then (me (⟨az,l⟩:Bv)).bind λy4=>some y4 else some false)).bind λa=>(bif a then (irem i gv.W).bind λn=>(iquo .i64 i gv.W).bind λn1=>(bv (gP gv y1 y2 y3 i az l n n1) bL (0,[])).bind λin_=>(md az l y3 in_).bind λy4=>(bif (gtB (br y4.2.2.1) 0)then (idx gv.Cells i).bind λx=>(pb y4.1 y4.2.2.2 y4.2.2.1 x).bind λy5=>some (.next ((bC .i64 i 1),y4.1,y5)) else (idx gv.Cells i).bind λx=>(bif (neB y4.2.1 x)then (iP y4.1 y4.2.2.2).bind λ_y5=>some (.next ((bC .i64 i 1),y4.1,(y4.2.2.2++[((([]:A0)++[])++[])]))) else some (.next ((bC .i64 i 1),y4.1,y4.2.2.2)))) else some (.out (az,l)))
def kc (t:Tree) (gv:Grid):Option (Bv×Int×Int) :=(l7 t gv).bind λy=>(bif (neB y 0)then some ((⟨0,[]⟩:Bv),0,y) else (dA t.Hood).bind λy1=>(oX (bH .i64 (bC .i64 gv.W (bH .i64 2 y1)) (bC .i64 gv.H (bH .i64 2 y1))) t.States).bind λy2=>(mz t).bind λy3=>(bv (dV gv y1 y2 y3) bL (0,y2.1,y2.2.2)).bind λ(az,l)=>(me (⟨az,l⟩:Bv)).bind λy4=>(bif (e9 y4)then some ((⟨0,[]⟩:Bv),0,6) else some ((⟨az,l⟩:Bv),y2.1,0)))
def lH (t:Tree) (in_:A0) (stt:Int×Int):Option (Lp B1 (Int)):=match stt with|(k,i)=>(bif (ltB i (br in_))then (idx t.Nodes k).bind λx=>(idx in_ i).bind λx1=>(idx x.Next x1).bind λx2=>some (.next (x2,(bC .i64 i 1))) else some (.out k))
def oW (t:Tree) (in_:A0):Ar :=(bv (lH t in_) bL ((bZ .i64 (br t.Nodes) 1),0)).bind λk=>some k
def ka (t:Tree) (cells:A0) (w r_ x y:Int) (stt:Int×A0):Option (Lp Av (A0)):=match stt with|(k,in_)=>(bif (ltB k (br t.Hood))then (idx t.Hood k).bind λx1=>(idx cells (bC .i64 (bC .i64 (bC .i64 (bH .i64 (bC .i64 (bC .i64 y r_) x1.Y) w) x) r_) x1.X)).bind λx2=>(dp 8 in_ [x2]).bind λ_l=>some (.next ((bC .i64 k 1),(in_++[x2]))) else some (.out in_))
def pd (t:Tree) (cells:A0) (w r_ x y:Int):Ar :=(bv (ka t cells w r_ x y) bL (0,[])).bind λin_=>(oW t in_).bind λy1=>some y1
def mS (t:Tree) (gv:Grid) (cells:A0) (y stt:Int):Option (Lp (Int) (Bool ⊕ Unit)):=match stt with|i=>(bif (ltB i (br gv.Cells))then (irem i gv.W).bind λn=>(iquo .i64 i gv.W).bind λn1=>(idx t.Hood (bZ .i64 (br t.Hood) 1)).bind λx=>((bif (eqB (bC .i64 (bC .i64 (bC .i64 (bH .i64 (bC .i64 (bC .i64 n1 y) x.Y) (bC .i64 gv.W (bH .i64 2 y))) n) y) x.X) (bZ .i64 (br cells) 1))then (pd t cells (bC .i64 gv.W (bH .i64 2 y)) y n n1).bind λy1=>(idx gv.Cells i).bind λx1=>some (neB y1 x1) else some false)).bind λa=>(bif a then some (.out (.inl true)) else some (.next (bC .i64 i 1))) else some (.out (.inr ())))
def oZ (t:Tree) (gv:Grid) (cells:A0):Ah :=(dA t.Hood).bind λy=>(bv (mS t gv cells y) bL 0).bind λo=>match o with|.inl r=>some r|.inr _u=>some false
def kr (rcv:(Tree->Grid->A0->Int->AW)) (t:Tree) (gv:Grid) (cells:A0) (most:Int) (stt:Int×AK):Option (Lp (Int×AK) (AK)):=match stt with|(s,out)=>((bif (ltB s t.States)then some (ltB (br out) most) else some false)).bind λa=>(bif a then ((dp 8 [] cells).bind λ_l=>(dp 8 ([]++cells) [s]).bind λ_l1=>(oZ t gv (([]++cells)++[s])).bind λy1=>(bif (e9 y1)then (rcv t gv (([]++cells)++[s]) (bZ .i64 most (br out))).bind λy2=>(dp 48 out y2).bind λ_l2=>some (out++y2) else some out)).bind λout1=>some (.next ((bC .i64 s 1),out1)) else some (.out out))
def gA (rcv:(Tree->Grid->A0->Int->AW)) (t:Tree) (gv:Grid) (cells:A0) (most:Int):AW :=(dA t.Hood).bind λy=>(bif (eqB (br cells) (bH .i64 (bC .i64 gv.W (bH .i64 2 y)) (bC .i64 gv.H (bH .i64 2 y))))then some [(⟨(bC .i64 gv.W (bH .i64 2 y)),(bC .i64 gv.H (bH .i64 2 y)),0,cells⟩:Grid)] else (bv (kr rcv t gv cells most) bL (0,[])).bind λout=>some out)
def tP (t:Tree) (gv:Grid) (cells:A0) (most:Int):AW:=rP gA (λ_ _ _ _=>none) recF t gv cells most
def nU (a b:AK) (stt:Int):Option (Lp (Int) (Bool ⊕ Unit)):=match stt with|i=>(bif (ltB i (br a))then (idx a i).bind λx=>(idx b i).bind λx1=>(nt x x1).bind λy=>(bif (e9 y)then some (.out (.inl false)) else some (.next (bC .i64 i 1))) else some (.out (.inr ())))
def nq (a b:AK):Ah :=(bif (neB (br a) (br b))then some false else (bv (nU a b) bL 0).bind λo=>match o with
   |.inl r=>some r|.inr _u=>some true)
def jw (t:Tree) (gv:Grid):Option (Grid×Bool×Int) :=(kc t gv).bind λy=>(bif (neB y.2.2 0)then some ((⟨0,0,0,[]⟩:Grid),false,y.2.2) else (tP t gv [] 1).bind λy1=>(bif (eqB (br y1) 0)then some ((⟨0,0,0,[]⟩:Grid),false,0) else (idx y1 0).bind λx=>some (x,true,0)))
def mV (t:Tree) (gv:Grid) (stt:Int):Option (Lp (Int) (Int ⊕ Unit)):=match stt with|i=>(bif (ltB i (br gv.Cells))then (idx gv.Cells i).bind λx=>(bif (geB x t.States)then some (.out (.inl 10)) else some (.next (bC .i64 i 1))) else some (.out (.inr ())))
def oY (t:Tree) (gv:Grid):Ar :=(jt t).bind λy=>(bif (e9 y)then some 11 else (l8 gv).bind λy1=>(bif (e9 y1)then some 2 else (bv (mV t gv) bL 0).bind λo=>match o with
    |.inl r=>some r|.inr _u=>some 0))
def gz (t:Tree) (n:Int) (stt:Int×Int×Int×Int×A0×AK):Option (Lp (Int×Int×Int×Int×A0×AK) ((AK×Int) ⊕ AK)):=match stt with|(i,gW,gH,b0,aR,out)=>(bif (ltB i n)then (jw t (⟨gW,gH,b0,aR⟩:Grid)).bind λy1=>((bif (e9 y1.2.1)then some true else some (neB y1.2.2 0))).bind λa1=>(bif a1 then some (.out (.inl (out,0))) else (dp 48 out [y1.1]).bind λ_l=>some (.next ((bC .i64 i 1),y1.1.W,y1.1.H,y1.1.Edge,y1.1.Cells,(out++[y1.1])))) else some (.out (.inr out)))
def lV (t:Tree) (gv:Grid) (n:Int):Option (AK×Int) :=(oY t gv).bind λy=>(bif (neB y 0)then some ([],y) else ((bif (ltB n 0)then some true else some (gtB n 100))).bind λa=>(bif a then some ([],2) else (bv (gz t n) bL (0,gv.W,gv.H,gv.Edge,gv.Cells,[])).bind λo=>match o with
    |.inl r=>some r|.inr out=>some (out,0)))
def fJ (t:Tree) (gv:Grid) (_n y1 stt:Int):Option (Lp (Int) (Bool ⊕ Unit)):=match stt with|k=>(bif (leB k 8)then ((bif (leB (bH .i64 (bC .i64 gv.W (bH .i64 (bH .i64 2 y1) k)) (bC .i64 gv.H (bH .i64 (bH .i64 2 y1) k))) 16)then (mkL 8 (bH .i64 (bZ .i64 (bC .i64 gv.W (bH .i64 (bH .i64 2 y1) k)) (bH .i64 2 y1)) (bZ .i64 (bC .i64 gv.H (bH .i64 (bH .i64 2 y1) k)) (bH .i64 2 y1))) (bH .i64 (bZ .i64 (bC .i64 gv.W (bH .i64 (bH .i64 2 y1) k)) (bH .i64 2 y1)) (bZ .i64 (bC .i64 gv.H (bH .i64 (bH .i64 2 y1) k)) (bH .i64 2 y1))) 0).bind λ_l=>(qf t (⟨(bZ .i64 (bC .i64 gv.W (bH .i64 (bH .i64 2 y1) k)) (bH .i64 2 y1)),(bZ .i64 (bC .i64 gv.H (bH .i64 (bH .i64 2 y1) k)) (bH .i64 2 y1)),0,(List.replicate (bH .i64 (bZ .i64 (bC .i64 gv.W (bH .i64 (bH .i64 2 y1) k)) (bH .i64 2 y1)) (bZ .i64 (bC .i64 gv.H (bH .i64 (bH .i64 2 y1) k)) (bH .i64 2 y1))).toNat 0)⟩:Grid)).bind λy2=>some (e9 y2) else some false)).bind λa1=>(bif a1 then (m0).bind λy2=>some (.out (.inl y2)) else some (.next (bC .i64 k 1))) else some (.out (.inr ())))
def jo (t:Tree) (gv:Grid) (n:Int):Ah :=(qf t gv).bind λy=>(bif (e9 y)then (m0).bind λy1=>some y1 else ((jt t).bind λy1=>(bif y1 then (l8 gv).bind λy2=>some y2 else some false)).bind λa=>(bif a then (dA t.Hood).bind λy1=>(bv (fJ t gv n y1) bL 1).bind λo=>match o with
    |.inl r=>some r|.inr _u=>(fw t gv n).bind λy2=>(lV t gv n).bind λy3=>((nq y2.1 y3.1).bind λy4=>(bif y4 then (bif (eqB y2.2 y3.2)then (m0).bind λy5=>some y5 else some false) else some false)).bind λa1=>some a1 else (fw t gv n).bind λy1=>(lV t gv n).bind λy2=>((nq y1.1 y2.1).bind λy3=>(bif y3 then (bif (eqB y1.2 y2.2)then (m0).bind λy4=>some y4 else some false) else some false)).bind λa1=>some a1))
abbrev vI (n:Int):V:=.u (.one (.d (.int .i64 n)))
abbrev dI (n:Int):C:=.d (.int .i64 n)
abbrev vX (k:Nat):V:=.u (.one (.box k 0))
abbrev vO (k:Nat):V:=.u (.one (.own k))
abbrev dL (l:A0):C:=.d (.sl 1 (List.map (rI .i64) l))
abbrev vT (b:Bool):V:=.u (.one (.d (.bool b)))
abbrev dR0 (l:AK):C:=.d (.sl 4 (List.map Grid.row l))
abbrev dR1 (l:AE):C:=.d (.sl 2 (List.map Node.row l))
abbrev dR2 (l:AG):C:=.d (.sl 2 (List.map Point.row l))
abbrev dR3 (l:AJ):C:=.d (.sl 2 (List.map Ba.row l))
abbrev dR5 (l:AH):C:=.d (.sl 2 (List.map Bw.row l))
abbrev qQ (a):=(.row 1 3 (List.map (rI .i64) a):Ob)
abbrev qW (a):=(.row 1 26 (List.map (rS 1 (rI .i64)) a):Ob)
abbrev qX (a:Tree):=(.box [dI a.States,dR2 a.Hood,dR1 a.Nodes]:Ob)
abbrev qY (a) (b) (c) (d) (e) (f) (g):=(.box [dI a,.own b,dI c,dR2 d,dR1 e,dI f,.map g]:Ob)
abbrev qZ (a:Tree):=(.u (.agg [dI a.States,dR2 a.Hood,dR1 a.Nodes]):V)
abbrev qK (a):=(.row 1 135 (List.map (rI .i8) a):Ob)
abbrev qJ (a):=(mOb .str kS (uA Tree.row) a:Ob)
abbrev qH (a:Grid):=(.box [dI a.W,dI a.H,dI a.Edge,dL a.Cells]:Ob)
abbrev qG (a):=(.u (.one (dL a)):V)
abbrev qF (a:Grid):=(.u (.agg [dI a.W,dI a.H,dI a.Edge,dL a.Cells]):V)
abbrev qD (a):=(.row 2 112 (List.map Ba.row a):Ob)
abbrev qA (a):=(.row 2 53 (List.map Node.row a):Ob)
abbrev qB (a):=(.row 3 140 (List.map Bb.row a):Ob)
abbrev qC (a):=(mOb .str kS (uL (L.int .i64)) a:Ob)
abbrev qE (a):=(.d (.sl 1 (List.map (rS 1 (rI .i64)) a)):C)
abbrev qI (a) (b) (c) (d) (e) (f) (g):=(.box [.own a,.map b,.own c,.own d,dI e,.own f,.d (.bool g)]:Ob)
abbrev qL:=(.box [dI 0,.d .nil]:Ob)
abbrev qM (a):=(.row 2 95 (List.map Bw.row a):Ob)
abbrev qN:=(.box [.fn 145 [.box 1000000 0,.box 1000002 0,.box 1000003 0,.box 1000004 0]]:Ob)
abbrev qO:=(.agg [dI 0,.d .nil,.d .nil]:U)
abbrev qP (a) (b):=(.box [dI a,.own b]:Ob)
abbrev qR (a:Node):=(.box [dI a.Level,dL a.Next]:Ob)
abbrev qS (a):=(.u (.one (dR1 a)):V)
abbrev qT (a) (b) (c) (d) (e) (f) (g):=(.box [.opq a,.opq b,.own c,.own d,dI e,.own f,.d (.bool g)]:Ob)
abbrev qU (a):=(.row 1 5 (List.map (rI .u8) a):Ob)
abbrev qV:=(.box [dI 0,dI 0,dI 0,dI 0,.d .nil]:Ob)
abbrev kQ:=(.box [dI 0,.d .nil,.d .nil]:Ob)
abbrev kW (a):=(.row 4 28 (List.map Grid.row a):Ob)
abbrev kX (a:Bz):=(.box [dI a.box.X,dI a.box.Y,dI a.box.W,dI a.box.H,dR5 a.values]:Ob)
abbrev kY (a):=(.u (.one (.d (.sl 1 (List.map rB a)))):V)
abbrev kZ (a) (b) (c) (d) (e):=(qY a 1000001 b c d e 1000002:Ob)
abbrev kK (a):=(.d (.bool a):C)
abbrev kJ (a:Box):=(.box [dI a.X,dI a.Y,dI a.W,dI a.H,.own 5002]:Ob)
abbrev kH (a) (b) (c) (d) (e):=(.u (.one (.fn 141 [.ref [.ref [.any,.any,(.sl 1 (List.map (rI .i8) a)),(.sl 1 (List.map (rI .i64) b)),(.int .i64 c),(.sl 3 (List.map Bb.row d)),(.bool e)] 0] 0])):V)
abbrev kG:=(.box [dI 0,dI 0,dI 0,.d .nil]:Ob)
abbrev kF:=(.u (.one (.fn 130 [.box 1000000 0,.box 1000001 0,.box 1000002 0])):V)
abbrev kD (a) (b) (c):=(.box [dI a,dR2 b,dR1 c]:Ob)
abbrev kA (a) (b) (c) (d) (e):=(.u (.one (.ref [.any,.any,(.sl 1 (List.map (rI .i8) a)),(.sl 1 (List.map (rI .i64) b)),(.int .i64 c),(.sl 3 (List.map Bb.row d)),(.bool e)] 0)):V)
abbrev kB (a:Box):=(.box [dI a.X,dI a.Y,dI a.W,dI a.H,.own 5000]:Ob)
abbrev kC (a):=(.box [dI a]:Ob)
abbrev kE (a) (b):=(.box [.own a,.map b]:Ob)
abbrev kL (a):=(.u (.one (dR2 a)):V)
abbrev kM (a):=(.box [.own a]:Ob)
abbrev kN (a:Box):=(.box [dI a.X,dI a.Y,dI a.W,dI a.H]:Ob)
abbrev kO:=(.row 1 26 (List.map (rS 1 (rI .i64)) []):Ob)
abbrev kP:=(.d (.bool false):C)
abbrev kR (a) (b) (c):=(.agg [dI a,dR2 b,dR1 c]:U)
abbrev kT (a:Bv):=(.u (.one (qE a.Clauses)):V)
abbrev kU (a:Bv):=(.u (.agg [dI a.Vars,qE a.Clauses]):V)
abbrev kV (a) (b) (c):=(.box [dI a,dI b,dI 0,.own c]:Ob)
abbrev jQ:=(.box [dI 0,.own 5001]:Ob)
abbrev jW (a) (b):=(.u (.agg [dI a,.own b]):V)
abbrev jX:=(.u (.one (.d .nil)):V)
abbrev jY:=(.row 3 140 (List.map Bb.row []):Ob)
abbrev jZ (a) (b):=(qI 1000001 1000002 1000003 1000006 a 1000005 b:Ob)
abbrev jK (a) (b) (c):=(.u (.agg [dI a,qE ((⟨b,c⟩:Bv).Clauses)]):V)
abbrev jJ (a:Bu):=(.box [dI a.W,dI a.H,dI a.Gens,dI a.DX,dI a.DY,dL a.Syms]:Ob)
abbrev jH (a):=(.u (.one (.fn 113 [.ref (Node.row a) 0])):V)
abbrev jG (a) (b) (c):=(kV (bZ .i64 a (bH .i64 2 b)) (bZ .i64 c (bH .i64 2 b)) 5001:Ob)
abbrev jF (a) (b) (c) (d) (e) (f):=(.box [.own a,.map b,.own c,.own d,dI 0,.own e,kK f]:Ob)
abbrev jD (a) (b) (c) (d) (e) (f):=(.box [.opq a,.opq b,.own 1000001,.opq c,dI d,.opq e,kK f]:Ob)
abbrev jA (a):=(.u (.one (.fn 69 [.ref (Tree.row a) 0])):V)
abbrev jB (a):=(.u (.one (.fn 71 [.ref (Tree.row a) 0])):V)
abbrev jC (a):=(.u (.one (.fn 43 [.ref (Tree.row a) 0])):V)
abbrev jE (a:Bv):=(.box [dI a.Vars,qE a.Clauses]:Ob)
abbrev jI (a) (b) (c) (d) (e):=(.agg [dI a,dI b,dI c,dI d,dR5 e]:U)
abbrev jL (a) (b) (c) (d):=(.box [dI a,dI b,dI c,dL d]:Ob)
abbrev jM (a) (b) (c) (d) (e):=(qY a 1000003 b c d e 1000002:Ob)
abbrev jN (a):=(.u (.one (dR0 a)):V)
abbrev jO (a:Tree):=(kR a.States a.Hood a.Nodes:U)
abbrev jP:=(kE 1000001 1000002:Ob)
abbrev jR:=(.u (.one (.fn 110 [])):V)
abbrev jS (a) (b):=(qP (bH .i64 a b) 5002:Ob)
abbrev jT:=(.box [.box 1000000 0]:Ob)
abbrev jU (a) (b):=(jK ((⟨a,b⟩:Bv).Vars) a b:V)
abbrev jV (a) (b):=(qI 1000001 1000002 1000003 1000004 a 1000005 b:Ob)
abbrev zQ (a) (b):=(qI 1000001 1000002 1000003 5002 a 1000005 b:Ob)
