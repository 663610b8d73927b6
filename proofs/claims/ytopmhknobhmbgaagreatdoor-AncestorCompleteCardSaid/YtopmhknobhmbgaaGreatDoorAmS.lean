/- What `simp` needs to evaluate code: the evaluation's functions, each locked so that `simp` does not go into what comes later before its time. -/
import Derived.Test.YtopmhknobhmbgaaGreatDoorAmT
namespace Go.AM
open Go.RowKit
inductive Lk.{u} {α:Sort u} (a:α):Type where
 |mk
def stp (r:Ad) (K:A2):Prop:=match r with|some (p,Z,O)=>p/\K Z O|none=>False
def rNewBox (Z:Env) (O:Sto) (d:Nat) (cs:Option As):Ad:=match cs with|some cs=>some (noTop cs=true,upd (du d Z) d (.u (.one (.box d 0))),upd (cp d O) d (some (.box (cs.map (C.wipe d)))))|none=>none
def rAlloc (tb:Tb) (Z:Env) (O:Sto) (d:Nat) (t:TypeId):Ad:=match tb.ty t with|some ti=>some (okZero ti=true,upd (du d Z) d (.u (.one (.box d 0))),upd (cp d O) d (some (.box ((kd ti.zu).map (C.wipe d)))))|none=>none
def rStore (tb:Tb) (Z:Env) (O:Sto) (t:TypeId) (x y:V):Ad:=match tb.ty t,x,mS y with
 |some ti,.u (.one (.box s off)),some xs=>match O s with
  |some (.box cs)=>some ((xs.length=ti.size/\off+ti.size<=cs.length/\noTop xs=true),Z,upd O s (some (.box (cs.take off++xs++cs.drop (off+ti.size)))))|_=>none
 |some ti,.u (.one (.elt s i sz off)),some xs=>match O s,pb xs with
  |some (.row sz' e rows),some ys=>match rows[i]? with
   |some r=>some ((sz=sz'/\ys.length=ti.size/\off+ti.size<=r.length),Z,upd O s (some (.row sz' e (rows.set i (r.take off++ys++r.drop (off+ti.size))))))|none=>none
  |some (.nest (.row e) ie sz' els),_=>match xs with
   |[.own t']=>some ((sz=1/\off=0/\ti.size=1/\i<els.length),Z,upd O s (some (.nest (.row e) ie sz' (els.set i (.own t')))))|_=>none
  |_,_=>none
 |_,_,_=>none
def rAppend (tb:Tb) (Z:Env) (O:Sto) (d:Nat) (t:TypeId) (x y:V):Ad:=match tb.ty t with
 |some ti=>match ti.desc with
  |.slice e=>match tb.ty e with
   |some te=>match s4 O te.size e x,sr O te.size y with
    |some (so,rows),some news=>some ((0<te.size/\0<te.bytes/\(rows.length+news.length)*te.bytes<=140737488355328),upd (du d Z) d (.u (.one (.own d))),upd (cp d (drop so O)) d (some (.row te.size e (rows++news))))|none,some news=>match fullV te.size x with
     |some rows=>some ((0<te.size/\0<te.bytes/\(rows.length+news.length)*te.bytes<=140737488355328/\0<news.length),upd (du d Z) d (.u (.one (.own d))),upd (cp d O) d (some (.row te.size e (rows++news))))|none=>none
    |_,_=>none
   |none=>none
  |_=>none
 |none=>none
def rAppendS (tb:Tb) (Z:Env) (O:Sto) (d:Nat) (t t':TypeId) (x y:V):Ad:=match tb.ty t,tb.ty t' with
 |some ti,some ts=>match ti.desc,ts.desc with
  |.slice e,.string=>match tb.ty e with
   |some te=>match s4 O te.size e x,strRow te.size y with
    |some (so,rows),some l=>some ((0<te.bytes/\(rows.length+l.length)*te.bytes<=140737488355328),upd (du d Z) d (.u (.one (.own d))),upd (cp d (drop so O)) d (some (.row te.size e (rows++l.map qj))))|_,_=>none
   |none=>none
  |_,_=>none
 |_,_=>none
def gu (tb:Tb) (Z:Env) (O:Sto) (t:TypeId) (m k x:V):Ad:=match tb.ty t,m,vkey k,vu x with
 |some ti,.u (.one (.map s)),some key,some u=>match ti.desc,O s with
  |.map kt _,some (.map kk es)=>some ((tb.key kt=some kk/\key.fits kk=true),Z,upd (iX s O) s (some (.map kk (mset es key u))))|.map kt _,some (.nest (.map kk ks) ie sz els)=>rMapN (tb.key kt) kk ks ie sz els key u Z O s|_,_=>none
 |_,_,_,_=>none
def jS (tb:Tb) (Z:Env) (O:Sto) (d:Ac) (t:TypeId) (m k:V):Ad:=match tb.ty t,m,vkey k with
 |some ti,.u (.one (.map s)),some key=>match ti.desc,O s with
  |.map kt _,some (.map kk es)=>some ((tb.key kt=some kk/\key.fits kk=true),ck Z d (.tup []),upd (iX s O) s (some (.map kk (mdel es key))))|_,_=>none
 |_,_,_=>none
def rMakeMap (tb:Tb) (Z:Env) (O:Sto) (d:Nat) (t:TypeId) (r:Ap):Ad:=match tb.ty t with
 |some ti=>match ti.desc with
  |.map kt _=>match tb.key kt with
   |some kk=>some ((match r with|none=>True|some v=>(qint v).isSome=true),upd (du d Z) d (.u (.one (.map d))),upd (cp d O) d (some (.map kk [])))|none=>none
  |_=>none
 |none=>none
def s3 (tb:Tb) (Z:Env) (O:Sto) (d:Nat) (t:TypeId) (x c:V):Ad:=match tb.ty t with
 |some ti=>match ti.desc with
  |.slice e=>match tb.ty e with
   |some te=>match x,c,(mS (.u te.zu)).bind pb with
    |.u (.one (.d (.int .i64 n))),.u (.one (.d (.int .i64 m))),some zr=>some ((0<=n/\n<=m/\0<te.size/\0<te.bytes/\m*te.bytes<=140737488355328),upd (du d Z) d (.u (.one (.own d))),upd (cp d O) d (some (.row te.size e (List.replicate n.toNat zr))))|_,_,_=>none
   |none=>none
  |_=>none
 |none=>none
def rRange (tb:Tb) (Z:Env) (O:Sto) (d:Nat) (t:TypeId) (x:V):Ad:=match tb.ty t,x with
 |some ti,.u (.one (.map s))=>match ti.desc,O s with
  |.map _ _,some (.map _ es)=>some (s≠d,upd (du d Z) d (.u (.one (.iter d))),upd (cp d O) d (some (.iter s (es.map λx=>(x.1,x.2.wipe d)) none)))|_,_=>none
 |_,_=>none
def rEntry (Z:Env) (O:Sto) (d:Nat) (x:V):Ad:=match x with
 |.u (.one (.iter s))=>match O s with
  |some (.iter _ _ (some x))=>some (True,upd Z d (.tup [x.1.u,x.2]),O)|_=>none
 |_=>none
def rNext (O:Sto) (x:V):Option (Nat×Nat×Ah):=match x with
 |.u (.one (.iter s))=>match O s with
  |some (.iter m left _)=>some (s,m,left)|_=>none
 |_=>none
def stpNext (r:Option (Nat×Nat×Ah)) (Z:Env) (O:Sto) (d:Nat) (K:A2):Prop:=match r with|some (s,m,left)=>(left=[]->K (upd Z d (.tup [.one (.d (.bool false))])) O) /\ ∀i x,left[i]?=some x->K (upd Z d (.tup [.one (.d (.bool true)),x.1.u,x.2])) (upd O s (some (.iter m (left.eraseIdx i) (some x))))|none=>False
def rEqNil (tb:Tb) (t:TypeId) (x y:V):Bool:=match tb.ty t,x,y with
 |some ti,.u (.one (.d (.sl _ []))),.u (.one (.d .nil))=>match ti.desc with
  |.slice _=>true|_=>false
 |_,_,_=>false
def stpE (r:Bool) (Z:Env) (O:Sto) (d:Nat) (K:A2):Prop:=match r with|true=>K (upd Z d (.u (.one (.d (.bool true))))) O/\K (upd Z d (.u (.one (.d (.bool false))))) O|false=>False
section
variable {tb:Tb} {Z Z':Env} {O O':Sto} {K:A2}
theorem aNewBox_eq {d:Nat} {cs:Option As}:sC Z O d cs K=stp (rNewBox Z O d cs) K:=by unfold sC rNewBox;cases cs<;>simp[stp]
theorem aeff_alloc {d:Nat} {t ty:TypeId} {pos:String} {af g}:iY tb Z O { dst:=some d,op:=.alloc t,type:=ty,pos:=pos,after:=af,guard:=g } K=stp (rAlloc tb Z O d t) K:=by unfold iY rAlloc;dsimp only;rcases tb.ty t with _|ti<;>rfl
theorem aeff_box {d:Nat} {t ty:TypeId} {x:Operand} {pos:String} {af g}:iY tb Z O { dst:=some d,op:=.box t x,type:=ty,pos:=pos,after:=af,guard:=g } K=stp (rNewBox Z O d (mS (oev Z x))) K:=by simp[iY,aNewBox_eq]
theorem aeff_store {t ty:TypeId} {x y:Operand} {pos:String} {af g}:iY tb Z O { dst:=none,op:=.store t x y,type:=ty,pos:=pos,after:=af,guard:=g } K=stp (rStore tb Z O t (oev Z x) (oev Z y)) K:=by
 unfold iY;dsimp only;unfold rf rStore;rcases tb.ty t with _|ti;{rfl};rcases oev Z x with (c|cs)|us<;>rcases mS (oev Z y)with _|xs<;>try rfl
 ·cases c<;>rfl
 ·cases c with
  |box s off=>
   dsimp only;rcases O s with _|ob;{rfl};cases ob<;>simp[stp,and_assoc]
  |elt s i sz off=>
   dsimp only;rcases O s with _|ob;{rfl};cases ob with
   |row z e rows=>
    rcases pb xs with _|ys;{rfl};dsimp only;rcases rows[i]? with _|r;{rfl};simp[stp,and_assoc]
   |nest e ie sz' els=>
    cases e with
    |map _ _=>rfl|row e=>
    dsimp only;split;{simp[stp,and_assoc]}
    ·rename_i hne;cases xs with
     |nil=>rfl|cons c l=>
      cases l with
      |nil=>(cases c<;>first|rfl|exact absurd rfl (hne _))|cons _ _=>cases c<;>rfl
   |_=>rfl
  |_=>rfl
theorem aeff_append {d:Nat} {t ty:TypeId} {x y:Operand} {pos:String} {af g}:iY tb Z O { dst:=some d,op:=.call { callee:=.builtin .append,args:=#[x,y],argTypes:=#[t,t] },type:=ty,pos:=pos,after:=af,guard:=g } K=stp (rAppend tb Z O d t (oev Z x) (oev Z y)) K:=by
 unfold iY;dsimp only;rw[if_pos rfl];unfold nc rAppend;rcases tb.ty t with _|ti;{rfl};dsimp only;cases ti.desc with
 |slice e=>
  dsimp only;rcases tb.ty e with _|te;{rfl};dsimp only;rcases s4 O te.size e (oev Z x)with _|⟨so,rows⟩;{rcases sr O te.size (oev Z y)with _|news;{rfl};dsimp only;rcases fullV te.size (oev Z x)with _|rows<;>rfl};rcases sr O te.size (oev Z y)with _|news;{rfl};simp[stp,and_assoc]
 |_=>rfl
theorem aeff_mapUpdate {t ty:TypeId} {m k x:Operand} {pos:String} {af g}:iY tb Z O { dst:=none,op:=.mapUpdate t m k x,type:=ty,pos:=pos,after:=af,guard:=g } K=stp (gu tb Z O t (oev Z m) (oev Z k) (oev Z x)) K:=by
 unfold iY;dsimp only;unfold oB gu;rcases tb.ty t with _|ti;{rfl};rcases oev Z m with (c|cs)|us<;>rcases vkey (oev Z k)with _|key<;>rcases vu (oev Z x)with _|u<;>try rfl
 ·cases c<;>rfl
 ·cases c<;>rfl
 ·cases c<;>rfl
 ·cases c with
  |map s=>
   dsimp only;cases ti.desc with
   |map kt e=>
    rcases O s with _|ob;{rfl};cases ob with
    |nest e ie sz els=>
     cases e with
     |row _=>rfl|map kk ks=>rfl
    |_=>simp[stp,and_assoc]
   |_=>rfl
  |_=>rfl
theorem aeff_makeMap {d:Nat} {t ty:TypeId} {r:Option Operand} {pos:String} {af g}:iY tb Z O { dst:=some d,op:=.makeMap t r,type:=ty,pos:=pos,after:=af,guard:=g } K=stp (rMakeMap tb Z O d t (r.map (oev Z))) K:=by
 unfold iY;dsimp only;unfold nQ rMakeMap;rcases tb.ty t with _|ti;{rfl};dsimp only;cases ti.desc with
 |map kt e=>
  dsimp only;rcases tb.key kt with _|kk<;>rfl
 |_=>rfl
theorem aeff_makeSlice {d:Nat} {t ty:TypeId} {x c:Operand} {pos:String} {af g}:iY tb Z O { dst:=some d,op:=.makeSlice t x c,type:=ty,pos:=pos,after:=af,guard:=g } K=stp (s3 tb Z O d t (oev Z x) (oev Z c)) K:=by unfold iY;dsimp only;unfold ly s3;rcases tb.ty t with _|ti;{rfl};grind[stp]
end
section
variable {P:Program} {cx:Cx} {tb:Tb} {all l:A6} {Z:Env} {O:Sto} {K:A2} {o:Oper} {Q:A9} {c:Code} {run skip:Ar} {d:Ac} {op:Op} {ty:TypeId} {pos:String} {af:Array Edge} {g:Av}
def agL (all:A6) (g:Av) (Z:Env) (run skip:Ar) (_:Lk (all,Z,run,skip)):Prop:=kg all g Z run skip
def agd (s:Ac) (want:Bool) (Z:Env) (run skip:Ar) (_:Lk (Z,run,skip)):Prop:=match s with
 |some s=>match Z s with
  |.u (.one (.d (.bool b)))=>(b=want->run (upd Z s (.u (.one (.d (.bool want))))))/\(b=!want->skip (upd Z s (.u (.one (.d (.bool !want))))))|.tup []=>skip Z|_=>False
 |none=>False
def agv (v:V) (s:Nat) (want:Bool) (Z:Env) (run skip:Ar) (_:Lk (Z,run,skip)):Prop:=match v with|.u (.one (.d (.bool b)))=>(b=want->run (upd Z s (.u (.one (.d (.bool want))))))/\(b=!want->skip (upd Z s (.u (.one (.d (.bool !want))))))|.tup []=>skip Z|_=>False
def agb (b:Bool) (s:Nat) (want:Bool) (Z:Env) (run skip:Ar) (_:Lk (Z,run,skip)):Prop:=(b=want->run (upd Z s (.u (.one (.d (.bool want))))))/\(b=!want->skip (upd Z s (.u (.one (.d (.bool !want))))))
theorem agL_none {k}:agL all none Z run skip k=run Z:=by rfl
theorem agL_some {j:Nat} {want:Bool} {k}:agL all (some (j,want)) Z run skip k=agd (gslot all j) want Z run skip .mk:=by rfl
theorem agd_some {s:Nat} {want:Bool} {k}:agd (some s) want Z run skip k=agv (Z s) s want Z run skip .mk:=by rfl
theorem agv_b {b:Bool} {s:Nat} {want:Bool} {k}:agv (.u (.one (.d (.bool b)))) s want Z run skip k=agb b s want Z run skip .mk:=by rfl
theorem agv_0 {s:Nat} {want:Bool} {k}:agv (.tup []) s want Z run skip k=skip Z:=by rfl
theorem agb_t {b:Bool} {s:Nat} {k}:agb b s true Z run skip k=((b=true->run (upd Z s (.u (.one (.d (.bool true))))))/\(b=false->skip (upd Z s (.u (.one (.d (.bool false))))))):=by rfl
theorem agb_f {b:Bool} {s:Nat} {k}:agb b s false Z run skip k=((b=false->run (upd Z s (.u (.one (.d (.bool false))))))/\(b=true->skip (upd Z s (.u (.one (.d (.bool true))))))):=by rfl
theorem agv_tt {v:V} {s:Nat} {k} (hv:v=.u (.one (.d (.bool true)))) (h:Z s=.u (.one (.d (.bool true)))):agv v s true Z run skip k=run Z:=by grind[agv_b,agb_t,kz]
theorem agv_ff {v:V} {s:Nat} {k} (hv:v=.u (.one (.d (.bool false)))) (h:Z s=.u (.one (.d (.bool false)))):agv v s false Z run skip k=run Z:=by grind[agv_b,agb_f,kz]
theorem agv_tf {v:V} {s:Nat} {k} (hv:v=.u (.one (.d (.bool true)))) (h:Z s=.u (.one (.d (.bool true)))):agv v s false Z run skip k=skip Z:=by grind[agv_b,agb_f,kz]
theorem agv_ft {v:V} {s:Nat} {k} (hv:v=.u (.one (.d (.bool false)))) (h:Z s=.u (.one (.d (.bool false)))):agv v s true Z run skip k=skip Z:=by grind[agv_b,agb_t,kz]
theorem gslot_zero:gslot ({ dst:=d,op:=op,type:=ty,pos:=pos,after:=af,guard:=g }::l) 0=d:=rfl
theorem gslot_succ {n:Nat}:gslot (o::l) (n+1)=gslot l n:=by simp[gslot]
def jp (P:Program) (cx:Cx) (tb:Tb) (all l:A6) (Z:Env) (O:Sto) (K:A2) (_:Lk (all,l,K)):Prop:=qy P cx tb all l Z O K
def astL (P:Program) (cx:Cx) (tb:Tb) (op:Op) (d:Ac) (Z:Env) (O:Sto) (K:A2) (_:Lk (Z,O,K)):Prop:=match dO op with
 |some c=>match eu Z c with
  |some (f,args)=>match tb.call f args with
   |some v=>K (ck Z d v) O|none=>match tb.eff f args d Z O with
    |some T=>T K|none=>nW P cx f args Z O d K
  |none=>False
 |none=>match qev tb Z O op with
  |some v=>K (ck Z d v) O|none=>aeffP tb Z O { dst:=d,op:=op,type:=0,pos := "",after:=#[],guard:=none } K
def ast1 (P:Program) (cx:Cx) (tb:Tb) (gc:Option Call) (op:Op) (d:Ac) (Z:Env) (O:Sto) (K:A2) (_:Lk (op,Z,O,K)):Prop:=match gc with
 |some c=>match eu Z c with
  |some (f,args)=>match tb.call f args with
   |some v=>K (ck Z d v) O|none=>match tb.eff f args d Z O with
    |some T=>T K|none=>nW P cx f args Z O d K
  |none=>False
 |none=>match qev tb Z O op with
  |some v=>K (ck Z d v) O|none=>aeffP tb Z O { dst:=d,op:=op,type:=0,pos := "",after:=#[],guard:=none } K
def ast2 (tb:Tb) (v:Ap) (op:Op) (d:Ac) (Z:Env) (O:Sto) (K:A2) (_:Lk (op,Z,O,K)):Prop:=match v with|some v=>K (ck Z d v) O|none=>aeffP tb Z O { dst:=d,op:=op,type:=0,pos := "",after:=#[],guard:=none } K
def astc (P:Program) (cx:Cx) (tb:Tb) (fa:Option (FuncId×An)) (d:Ac) (Z:Env) (O:Sto) (K:A2) (_:Lk (Z,O,K)):Prop:=match fa with
 |some (f,args)=>match tb.call f args with
   |some v=>K (ck Z d v) O|none=>match tb.eff f args d Z O with
    |some T=>T K|none=>nW P cx f args Z O d K
 |none=>False
def ast3 (P:Program) (cx:Cx) (tb:Tb) (r:Ap) (f:FuncId) (args:An) (d:Ac) (Z:Env) (O:Sto) (K:A2) (_:Lk (Z,O,K)):Prop:=match r with
 |some v=>K (ck Z d v) O|none=>match tb.eff f args d Z O with
  |some T=>T K|none=>nW P cx f args Z O d K
def ast4 (P:Program) (cx:Cx) (r:Option (A2->Prop)) (f:FuncId) (args:An) (d:Ac) (Z:Env) (O:Sto) (K:A2) (_:Lk (Z,O,K)):Prop:=match r with|some T=>T K|none=>nW P cx f args Z O d K
def CallL (P:Program) (cx:Cx) (f:FuncId) (args:An) (d:Ac) (Z:Env) (O:Sto) (K:A2) (_:Lk (Z,O,K)):Prop:=nW P cx f args Z O d K
def om (tb:Tb) (op:Op) (d:Ac) (Z:Env) (O:Sto) (K:A2) (_:Lk (op,Z,O,K)):Prop:=iY tb Z O { dst:=d,op:=op,type:=0,pos := "",after:=#[],guard:=none } K
def stpL (r:Ad) (K:A2) (_:Lk K):Prop:=stp r K
def stpEL (r:Bool) (Z:Env) (O:Sto) (d:Nat) (K:A2) (_:Lk (Z,O,K)):Prop:=stpE r Z O d K
def stpN (r:Option (Nat×Nat×Ah)) (Z:Env) (O:Sto) (d:Nat) (K:A2) (_:Lk (Z,O,K)):Prop:=stpNext r Z O d K
theorem aopsL_nil {k}:jp P cx tb all [] Z O K k=K Z O:=by rfl
theorem aopsL_cons {k}:jp P cx tb all ({ dst:=d,op:=op,type:=ty,pos:=pos,after:=af,guard:=g }::l) Z O K k =
  agL all g Z (λZ=>astL P cx tb op d Z O (λZ O=>jp P cx tb all l Z O K .mk) .mk) (λZ=>jp P cx tb all l (ck Z d (.tup [])) O K .mk) .mk:=by rfl
theorem astL_eq {k}:astL P cx tb op d Z O K k=ast1 P cx tb (dO op) op d Z O K .mk:=by rfl
theorem ast1_none {k}:ast1 P cx tb none op d Z O K k=ast2 tb (qev tb Z O op) op d Z O K .mk:=by rfl
theorem ast1_some {c:Call} {k}:ast1 P cx tb (some c) op d Z O K k=astc P cx tb (eu Z c) d Z O K .mk:=by rfl
theorem ast2_some {v:V} {k}:ast2 tb (some v) op d Z O K k=K (ck Z d v) O:=by rfl
def aefP (r:Ad) (tb:Tb) (op:Op) (d:Ac) (Z:Env) (O:Sto) (K:A2) (_:Lk (op,Z,O,K)):Prop:=match r with|some (p,Z',O')=>p/\K Z' O'|none=>om tb op d Z O K .mk
theorem aefP_none {k}:aefP none tb op d Z O K k=om tb op d Z O K .mk:=by rfl
theorem aefP_some {p:Prop} {Z':Env} {O':Sto} {k}:aefP (some (p,Z',O')) tb op d Z O K k=(p/\K Z' O'):=by rfl
theorem ast2_none {k}:ast2 tb none op d Z O K k=aefP (preR tb Z O op d) tb op d Z O K .mk:=by rfl
theorem astc_some {f:FuncId} {args:An} {k}:astc P cx tb (some (f,args)) d Z O K k=ast3 P cx tb (tb.call f args) f args d Z O K .mk:=by rfl
theorem ast3_some {f:FuncId} {args:An} {v:V} {k}:ast3 P cx tb (some v) f args d Z O K k=K (ck Z d v) O:=by rfl
theorem ast3_none {f:FuncId} {args:An} {k}:ast3 P cx tb none f args d Z O K k=ast4 P cx (tb.eff f args d Z O) f args d Z O K .mk:=by rfl
theorem ast4_some {f:FuncId} {args:An} {T:A2->Prop} {k}:ast4 P cx (some T) f args d Z O K k=T K:=by rfl
theorem ast4_none {f:FuncId} {args:An} {k}:ast4 P cx none f args d Z O K k=CallL P cx f args d Z O K .mk:=by rfl
theorem stpL_some {p:Prop} {k}:stpL (some (p,Z,O)) K k=(p/\K Z O):=by rfl
theorem stpEL_true {d:Nat} {k}:stpEL true Z O d K k=(K (upd Z d (.u (.one (.d (.bool true))))) O/\K (upd Z d (.u (.one (.d (.bool false))))) O):=by rfl
theorem stpN_some {s m d:Nat} {left:Ah} {k}:stpN (some (s,m,left)) Z O d K k=((left=[]->K (upd Z d (.tup [.one (.d (.bool false))])) O) /\ ∀i x,left[i]?=some x->K (upd Z d (.tup [.one (.d (.bool true)),x.1.u,x.2])) (upd O s (some (.iter m (left.eraseIdx i) (some x))))):=by rfl
theorem aefL_alloc {d:Nat} {t:TypeId} {k}:om tb (.alloc t) (some d) Z O K k=stpL (rAlloc tb Z O d t) K .mk:=by unfold om stpL;rw[aeff_alloc]
theorem aefL_box {d:Nat} {t:TypeId} {x:Operand} {k}:om tb (.box t x) (some d) Z O K k=stpL (rNewBox Z O d (mS (oev Z x))) K .mk:=by unfold om stpL;rw[aeff_box]
theorem aefL_store {t:TypeId} {x y:Operand} {k}:om tb (.store t x y) none Z O K k=stpL (rStore tb Z O t (oev Z x) (oev Z y)) K .mk:=by unfold om stpL;rw[aeff_store]
theorem aefL_append {d:Nat} {t:TypeId} {x y:Operand} {k}:om tb (.call { callee:=.builtin .append,args:=#[x,y],argTypes:=#[t,t] }) (some d) Z O K k=stpL (rAppend tb Z O d t (oev Z x) (oev Z y)) K .mk:=by unfold om stpL;rw[aeff_append]
theorem aefL_mapUpdate {t:TypeId} {m x y:Operand} {k}:om tb (.mapUpdate t m x y) none Z O K k=stpL (gu tb Z O t (oev Z m) (oev Z x) (oev Z y)) K .mk:=by unfold om stpL;rw[aeff_mapUpdate]
theorem aefL_makeMap {d:Nat} {t:TypeId} {r:Option Operand} {k}:om tb (.makeMap t r) (some d) Z O K k=stpL (rMakeMap tb Z O d t (r.map (oev Z))) K .mk:=by unfold om stpL;rw[aeff_makeMap]
theorem aefL_makeSlice {d:Nat} {t:TypeId} {x c:Operand} {k}:om tb (.makeSlice t x c) (some d) Z O K k=stpL (s3 tb Z O d t (oev Z x) (oev Z c)) K .mk:=by unfold om stpL;rw[aeff_makeSlice]
end
section
variable {P:Program} {cx:Cx} {tb:Tb} {all l:A6} {Z:Env} {O:Sto} {K:A2} {o:Oper} {Q:A9} {c:Code} {d:Ac} {op:Op} {ty:TypeId} {pos:String} {af:Array Edge} {g:Av} {k:V->Prop} {J:Ar}
def qopsL (P:Program) (tb:Tb) (all:A6) (O:Sto) (l:A6) (Z:Env) (J:Ar) (_:Lk (all,l,O,J)):Prop:=qops P tb all O l Z J
def qstL (P:Program) (tb:Tb) (op:Op) (Z:Env) (O:Sto) (k:V->Prop) (_:Lk (Z,O,k)):Prop:=match dO op with
 |some c=>match eu Z c with
  |some (f,args)=>match tb.call f args with
   |some v=>k v|none=>qcall P O f args k
  |none=>False
 |none=>match qev tb Z O op with
  |some v=>k v|none=>False
def qst1 (P:Program) (tb:Tb) (gc:Option Call) (op:Op) (Z:Env) (O:Sto) (k:V->Prop) (_:Lk (op,Z,O,k)):Prop:=match gc with
 |some c=>match eu Z c with
  |some (f,args)=>match tb.call f args with
   |some v=>k v|none=>qcall P O f args k
  |none=>False
 |none=>match qev tb Z O op with
  |some v=>k v|none=>False
def qst2 (v:Ap) (k:V->Prop) (_:Lk k):Prop:=match v with|some v=>k v|none=>False
def qstc (P:Program) (tb:Tb) (fa:Option (FuncId×An)) (O:Sto) (k:V->Prop) (_:Lk (O,k)):Prop:=match fa with
 |some (f,args)=>match tb.call f args with
   |some v=>k v|none=>qcall P O f args k
 |none=>False
def qst3 (P:Program) (r:Ap) (f:FuncId) (args:An) (O:Sto) (k:V->Prop) (_:Lk (O,k)):Prop:=match r with|some v=>k v|none=>qcall P O f args k
def qcallL (P:Program) (f:FuncId) (args:An) (O:Sto) (k:V->Prop) (_:Lk (O,k)):Prop:=qcall P O f args k
theorem qopsL_nil {j}:qopsL P tb all O [] Z J j=J Z:=by rfl
theorem qopsL_cons {j}:qopsL P tb all O ({ dst:=d,op:=op,type:=ty,pos:=pos,after:=af,guard:=g }::l) Z J j =
  agL all g Z (λZ=>qstL P tb op Z O (λv=>qopsL P tb all O l (ck Z d v) J .mk) .mk) (λZ=>qopsL P tb all O l (ck Z d (.tup [])) J .mk) .mk:=by rfl
theorem qstL_eq {j}:qstL P tb op Z O k j=qst1 P tb (dO op) op Z O k .mk:=by rfl
theorem qst1_none {j}:qst1 P tb none op Z O k j=qst2 (qev tb Z O op) k .mk:=by rfl
theorem qst1_some {c:Call} {j}:qst1 P tb (some c) op Z O k j=qstc P tb (eu Z c) O k .mk:=by rfl
theorem qst2_some {v:V} {j}:qst2 (some v) k j=k v:=by rfl
theorem qstc_some {f:FuncId} {args:An} {j}:qstc P tb (some (f,args)) O k j=qst3 P (tb.call f args) f args O k .mk:=by rfl
theorem qst3_some {f:FuncId} {args:An} {v:V} {j}:qst3 P (some v) f args O k j=k v:=by rfl
theorem qst3_none {f:FuncId} {args:An} {j}:qst3 P none f args O k j=qcallL P f args O k .mk:=by rfl
def qf (P:Program) (cx:Cx) (tb:Tb) (c:Code) (Z:Env) (O:Sto) (Q:A9) (_:Lk (c,Q)):Prop:=aswp P cx tb c Z O Q
def SwpL (P:Program) (cx:Cx) (c:Code) (Z:Env) (O:Sto) (Q:A9) (_:Lk (c,Q)):Prop:=Swp P cx c Z O Q
def acondL (v:V) (p q:Prop) (_:Lk (p,q)):Prop:=acond v p q
def adrL (P:Program) (cx:Cx) (tb:Tb) (all ops:A6) (Z:Env) (O:Sto) (K:A2) (_:Lk (all,ops,O,K)):Prop:=adraw P cx tb all ops Z O K
def thenL (K:A2) (Q:A9) (_:Lk (K,Q)) (e:Exit):A2:=thenQ K Q e
def blkL (id:Nat) (Q:A9) (_:Lk Q) (e:Exit):A2:=o5 id Q e
theorem aswp_skip {j}:qf P cx tb .skip Z O Q j=Q .normal Z O:=by rfl
theorem aswp_exit {id:Nat} {j}:qf P cx tb (.exit id) Z O Q j=Q (.exit id) Z O:=by rfl
theorem aswp_ret {j}:qf P cx tb .ret Z O Q j=Q .ret Z O:=by rfl
theorem aswp_seq {x y:Code} {j}:qf P cx tb (.seq x y) Z O Q j=qf P cx tb x Z O (thenL (λZ O=>qf P cx tb y Z O Q .mk) Q .mk) .mk:=by rfl
theorem aswp_cond {c:Operand} {x y:Code} {j}:qf P cx tb (.cond c x y) Z O Q j=acondL (oev Z c) (qf P cx tb x Z O Q .mk) (qf P cx tb y Z O Q .mk) .mk:=by rfl
theorem aswp_block {id:Nat} {x:Code} {j}:qf P cx tb (.block id x) Z O Q j=qf P cx tb x Z O (blkL id Q .mk) .mk:=by rfl
theorem aswp_region {id:Nat} {l:A6} {j}:qf P cx tb (.region id l.toArray false) Z O Q j=jp P cx tb l l Z O (Q .normal) .mk:=by rfl
def drwL (h:Option (Nat×A5)) (P:Program) (cx:Cx) (tb:Tb) (l:A6) (Z:Env) (O:Sto) (K:A2) (_:Lk (l,Z,O,K)):Prop:=adrawn P cx tb h l Z O K
def admL (P:Program) (cx:Cx) (tb:Tb) (all l:A6) (x:Nat) (us:A5) (Z:Env) (O:Sto) (K:A2) (_:Lk (all,l,us,O,K)):Prop:=adrawM P cx tb all l x us Z O K
def qcL (tb:Tb) (all l:A6) (O:Sto) (Z:Env) (us:A5) (_:Lk (all,l,us)):Prop:=qchks tb all O Z us
def qc1 (tb:Tb) (l:A6) (O:Sto) (Z:Env) (j:Nat) (_:Lk l):Prop:=qchk tb l O Z j
theorem aswp_drawn {id:Nat} {l:A6} {j}:qf P cx tb (.region id l.toArray true) Z O Q j=drwL (tb.mid id) P cx tb l Z O (Q .normal) .mk:=by rfl
theorem drwL_none {j}:drwL none P cx tb l Z O K j=adrL P cx tb l l Z O K .mk:=by rfl
theorem drwL_some {x:Nat} {us:A5} {j}:drwL (some (x,us)) P cx tb l Z O K j=admL P cx tb l l x us Z O K .mk:=by rfl
theorem admL_succ {x:Nat} {us:A5} {j}:admL P cx tb all ({ dst:=d,op:=op,type:=ty,pos:=pos,after:=af,guard:=g }::l) (x+1) us Z O K j =
  agL all g Z (λZ=>qstL P tb op Z O (λv=>admL P cx tb all l x us (ck Z d v) O K .mk) .mk) (λZ=>admL P cx tb all l x us (ck Z d (.tup [])) O K .mk) .mk:=by rfl
theorem qcL_nil {j}:qcL tb all l O Z [] j=True:=by rfl
theorem qcL_cons {i:Nat} {us:A5} {j}:qcL tb all l O Z (i::us) j=(qc1 tb all O Z i .mk/\qcL tb all l O Z us .mk):=by rfl
theorem qc1_succ {i:Nat} {j}:qc1 tb (o::l) O Z (i+1) j=qc1 tb l O Z i .mk:=by rfl
theorem qc1_zero {s:Nat} {j}:qc1 tb ({ dst:=some s,op:=op,type:=ty,pos:=pos,after:=af,guard:=g }::l) O Z 0 j=(qev tb Z O op=some (Z s)):=by rfl
theorem isAss_move (x:Operand):d6 (.move x)=false:=rfl
theorem isAss_pick (c a b:Operand):d6 (.pick c a b)=false:=rfl
theorem isAss_alloc (elem:TypeId):d6 (.alloc elem)=false:=rfl
theorem isAss_box (elem:TypeId) (v:Operand):d6 (.box elem v)=false:=rfl
theorem isAss_build (t:TypeId) (parts:Array (Nat×Operand)):d6 (.build t parts)=false:=rfl
theorem isAss_buildSlice (t:TypeId) (len:Nat) (parts:Array (Nat×Operand)):d6 (.buildSlice t len parts)=false:=rfl
theorem isAss_load (t:TypeId) (addr:Operand):d6 (.load t addr)=false:=rfl
theorem isAss_store (t:TypeId) (addr val:Operand):d6 (.store t addr val)=false:=rfl
theorem isAss_nilCheck (x:Operand):d6 (.nilCheck x)=false:=rfl
theorem isAss_binOp (op:BinOp) (xType:TypeId) (x y:Operand) (yType:TypeId):d6 (.binOp op xType x y yType)=false:=rfl
theorem isAss_unOp (op:UnOp) (xType:TypeId) (x:Operand):d6 (.unOp op xType x)=false:=rfl
theorem isAss_convert (src dst:TypeId) (x:Operand):d6 (.convert src dst x)=false:=rfl
theorem isAss_makeFunc (fn:Fn) (first captured:Array Operand):d6 (.makeFunc fn first captured)=false:=rfl
theorem isAss_makeMap (t:TypeId) (reserve:Option Operand):d6 (.makeMap t reserve)=false:=rfl
theorem isAss_makeSlice (t:TypeId) (len cap:Operand):d6 (.makeSlice t len cap)=false:=rfl
theorem isAss_slice (xType:TypeId) (x:Operand) (low high max:Option Operand):d6 (.slice xType x low high max)=false:=rfl
theorem isAss_fieldAddr (xType:TypeId) (x:Operand) (field:Nat):d6 (.fieldAddr xType x field)=false:=rfl
theorem isAss_field (xType:TypeId) (x:Operand) (field:Nat):d6 (.field xType x field)=false:=rfl
theorem isAss_indexAddr (xType:TypeId) (x index:Operand):d6 (.indexAddr xType x index)=false:=rfl
theorem isAss_index (xType:TypeId) (x index:Operand):d6 (.index xType x index)=false:=rfl
theorem isAss_lookup (xType:TypeId) (x index:Operand) (commaOk:Bool):d6 (.lookup xType x index commaOk)=false:=rfl
theorem isAss_mapUpdate (mapType:TypeId) (map key value:Operand):d6 (.mapUpdate mapType map key value)=false:=rfl
theorem isAss_range (xType:TypeId) (x:Operand):d6 (.range xType x)=false:=rfl
theorem isAss_next (iter:Operand) (isString:Bool):d6 (.next iter isString)=false:=rfl
theorem isAss_entry (iter:Operand):d6 (.entry iter)=false:=rfl
theorem isAss_extract (tuple:Operand) (index:Nat):d6 (.extract tuple index)=false:=rfl
theorem isAss_call (c:Call):d6 (.call c)=false:=rfl
theorem adrL_one {j}:adrL P cx tb all [o] Z O K j=jp P cx tb all [o] Z O K .mk:=by rfl
def adr2 (b:Bool) (P:Program) (cx:Cx) (tb:Tb) (all:A6) (o o':Oper) (Z:Env) (O:Sto) (K:A2) (_:Lk (all,o,o',O,K)):Prop:=match b with|true=>qy P cx tb all [o,o'] Z O K|false=>qops P tb all O [o] Z λZ=>qy P cx tb all [o'] Z O K
theorem adr2_true {o':Oper} {j}:adr2 true P cx tb all o o' Z O K j=jp P cx tb all [o,o'] Z O K .mk:=by rfl
theorem adr2_false {o':Oper} {j}:adr2 false P cx tb all { dst:=d,op:=op,type:=ty,pos:=pos,after:=af,guard:=g } o' Z O K j =
  agL all g Z (λZ=>qstL P tb op Z O (λv=>jp P cx tb all [o'] (ck Z d v) O K .mk) .mk) (λZ=>jp P cx tb all [o'] (ck Z d (.tup [])) O K .mk) .mk:=by rfl
theorem isAss_assign (x:Operand):d6 (.assign x)=true:=rfl
theorem adrL_cons {o' o'':Oper} {j}:adrL P cx tb all ({ dst:=d,op:=op,type:=ty,pos:=pos,after:=af,guard:=g }::o'::o''::l) Z O K j =
  agL all g Z (λZ=>qstL P tb op Z O (λv=>adrL P cx tb all (o'::o''::l) (ck Z d v) O K .mk) .mk) (λZ=>adrL P cx tb all (o'::o''::l) (ck Z d (.tup [])) O K .mk) .mk:=by rfl
theorem aswp_loop {x:Code} {j}:qf P cx tb (.loop x) Z O Q j=SwpL P cx (.loop x) Z O Q .mk:=by rfl
theorem thenL_normal {j}:thenL K Q j .normal Z O=K Z O:=by rfl
theorem thenL_ret {j}:thenL K Q j .ret Z O=Q .ret Z O:=by rfl
theorem thenL_exit {i:Nat} {j}:thenL K Q j (.exit i) Z O=Q (.exit i) Z O:=by rfl
theorem blkL_normal {id:Nat} {j}:blkL id Q j .normal Z O=Q .normal Z O:=by rfl
theorem blkL_ret {id:Nat} {j}:blkL id Q j .ret Z O=Q .ret Z O:=by rfl
theorem putE_some {d:Nat} {v:V}:ck Z (some d) v=upd Z d v:=by unfold ck;rfl
theorem wipeE_apply (d:Nat) (Z:Env) (t:Nat):du d Z t=(Z t).wipe d:=rfl
theorem wipeS_apply (d:Nat) (O:Sto) (t:Nat):cp d O t=(O t).bind (Ob.wipe d):=rfl
theorem drop_apply (s:Ac) (O:Sto) (t:Nat):drop s O t=if s=some t then none else O t:=rfl
theorem df (s:Nat) (O:Sto) (t:Nat):iX s O t=match O t with|some (.iter m l la)=>if m=s then none else some (.iter m l la)|o=>o:=by rfl
theorem vwipe_u (d:Nat) (x:U):V.wipe d (.u x)=.u (x.wipe d):=rfl
theorem vwipe_tup (d:Nat) (us:List U):V.wipe d (.tup us)=.tup (us.map (U.wipe d)):=rfl
theorem uwipe_one (d:Nat) (c:C):U.wipe d (.one c)=.one (c.wipe d):=rfl
theorem uwipe_agg (d:Nat) (cs:As):U.wipe d (.agg cs)=.agg (cs.map (C.wipe d)):=rfl
theorem cwipe_top (d:Nat):C.wipe d .top=.top:=rfl
theorem cwipe_d (d:Nat) (x:L):C.wipe d (.d x)=.d x:=rfl
theorem cwipe_ref (d:Nat) (xs:Ai) (o:Nat):C.wipe d (.ref xs o)=.ref xs o:=rfl
theorem cwipe_nilmap (d:Nat):C.wipe d .nilmap=.nilmap:=rfl
theorem cwipe_box (d t o:Nat):C.wipe d (.box t o)=if t=d then .top else .box t o:=rfl
theorem cwipe_own (d t:Nat):C.wipe d (.own t)=if t=d then .top else .own t:=rfl
theorem cwipe_elt (d t i z o:Nat):C.wipe d (.elt t i z o)=if t=d then .top else .elt t i z o:=rfl
theorem cwipe_map (d t:Nat):C.wipe d (.map t)=if t=d then .top else .map t:=rfl
theorem cwipe_iter (d t:Nat):C.wipe d (.iter t)=if t=d then .top else .iter t:=rfl
theorem cwipe_fn (d:Nat) (f:FuncId) (caps:As):C.wipe d (.fn f caps)=if C.ments d caps then .top else .fn f caps:=rfl
end
attribute [simp] gslot_zero gslot_succ
attribute [simp] agL_none agL_some agd_some agv_0 aopsL_nil aopsL_cons astL_eq ast1_none ast1_some ast2_some ast2_none aefP_none aefP_some preR preD preT preV astc_some ast3_some ast3_none ast4_some ast4_none stpL_some stpEL_true stpN_some aefL_alloc aefL_box aefL_store aefL_append aefL_mapUpdate aefL_makeMap aefL_makeSlice qopsL_nil qopsL_cons qstL_eq qst1_none qst1_some qst2_some qstc_some qst3_some qst3_none aswp_skip aswp_exit aswp_ret aswp_seq aswp_cond aswp_block aswp_region aswp_drawn drwL_none drwL_some admL_succ qcL_nil qcL_cons qc1_succ qc1_zero adrL_one adr2_true adr2_false adrL_cons isAss_assign isAss_move isAss_pick isAss_alloc isAss_box isAss_build isAss_buildSlice isAss_load isAss_store isAss_nilCheck isAss_binOp isAss_unOp isAss_convert isAss_makeFunc isAss_makeMap isAss_makeSlice isAss_slice isAss_fieldAddr isAss_field isAss_indexAddr isAss_index isAss_lookup isAss_mapUpdate isAss_range isAss_next isAss_entry isAss_extract isAss_call aswp_loop thenL_normal thenL_ret thenL_exit blkL_normal blkL_ret
attribute [simp] agv_b
attribute [simp] agv_tt agv_ff agv_tf agv_ft
attribute [simp] dO eu qev oev constV sA upd_apply putE_some wipeE_apply wipeS_apply drop_apply df vwipe_u vwipe_tup uwipe_one uwipe_agg cwipe_top cwipe_d cwipe_ref cwipe_nilmap cwipe_box cwipe_own cwipe_elt cwipe_map cwipe_iter cwipe_fn C.ments C.ment Ob.wipe rEqNil rNewBox rAlloc kd okZero allOne Value.oneCell' rStore rAppend rAppendS strRow gu rMapN jS rMakeMap s3 rRange rEntry rNext mS noTop memOf qload qfield qbin qbuild qbuildA offsA nM qextract qlenB fG qpick pickV isShift fillC cdata pb rF pR mset mdel vkey vu qint qidx nH sd lenFits s4 sr cints TI.agg env0 sto0 V.frz U.frz C.frz V.free U.free U.frees C.free C.frees jk resUs resU Key.fits Key.val Key.u
