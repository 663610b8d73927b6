/- Lemmas for the law. -/
import Derived.Test.YtpeabgakdpojlaaGreatDoorAmO
namespace Go.AM
open Go.RowKit
inductive Lk.{u} {I:Sort u} (a:I):Type where
 |mk
def stp (r:Ae) (K:A3):Prop:=match r with|some (p,Z,O)=>p/\K Z O|none=>False
def rNewBox (Z:Env) (O:Sto) (d:Nat) (cs:Option As):Ae:=match cs with|some cs=>some (noTop cs=true,upd (eY d Z) d (.u (.one (.box d 0))),upd (cM d O) d (some (.box (cs.map (C.wipe d)))))|none=>none
def rAlloc (tb:Tb) (Z:Env) (O:Sto) (d:Nat) (t:TypeId):Ae:=match tb.ty t with|some ti=>some (okZero ti=true,upd (eY d Z) d (.u (.one (.box d 0))),upd (cM d O) d (some (.box ((nh ti.zu).map (C.wipe d)))))|none=>none
def rStore (tb:Tb) (Z:Env) (O:Sto) (t:TypeId) (x y:V):Ae:=match tb.ty t,x,nZ y with
 |some ti,.u (.one (.box s off)),some xs=>match O s with
  |some (.box cs)=>some ((xs.length=ti.size/\off+ti.size<=cs.length/\noTop xs=true),Z,upd O s (some (.box (cs.take off++xs++cs.drop (off+ti.size)))))|_=>none
 |some ti,.u (.one (.elt s i sz off)),some xs=>match O s,rq xs with
  |some (.row sz' e rows),some ys=>match rows[i]? with
   |some r=>some ((sz=sz'/\ys.length=ti.size/\off+ti.size<=r.length),Z,upd O s (some (.row sz' e (rows.set i (r.take off++ys++r.drop (off+ti.size))))))|none=>none
  |some (.nest (.row e) ie sz' els),_=>match xs with
   |[.own t']=>some ((sz=1/\off=0/\ti.size=1/\i<els.length),Z,upd O s (some (.nest (.row e) ie sz' (els.set i (.own t')))))|_=>none
  |_,_=>none
 |_,_,_=>none
def rAppend (tb:Tb) (Z:Env) (O:Sto) (d:Nat) (t:TypeId) (x y:V):Ae:=match tb.ty t with
 |some ti=>match ti.desc with
  |.slice e=>match tb.ty e with
   |some te=>match fstRow O te.size e x,tU O te.size y with
    |some (so,rows),some news=>some ((0<te.size/\0<te.bytes/\(rows.length+news.length)*te.bytes<=140737488355328),upd (eY d Z) d (.u (.one (.own d))),upd (cM d (drop so O)) d (some (.row te.size e (rows++news))))|none,some news=>match fullV te.size x with
     |some rows=>some ((0<te.size/\0<te.bytes/\(rows.length+news.length)*te.bytes<=140737488355328/\0<news.length),upd (eY d Z) d (.u (.one (.own d))),upd (cM d O) d (some (.row te.size e (rows++news))))|none=>none
    |_,_=>none
   |none=>none
  |_=>none
 |none=>none
def fi (tb:Tb) (Z:Env) (O:Sto) (t:TypeId) (m k x:V):Ae:=match tb.ty t,m,vkey k,vu x with
 |some ti,.u (.one (.map s)),some key,some u=>match ti.desc,O s with
  |.map kt _,some (.map kk es)=>some ((tb.key kt=some kk/\key.fits kk=true),Z,upd (lm s O) s (some (.map kk (mset es key u))))|.map kt _,some (.nest (.map kk ks) ie sz els)=>rMapN (tb.key kt) kk ks ie sz els key u Z O s|_,_=>none
 |_,_,_,_=>none
def rMakeMap (tb:Tb) (Z:Env) (O:Sto) (d:Nat) (t:TypeId) (r:At):Ae:=match tb.ty t with
 |some ti=>match ti.desc with
  |.map kt _=>match tb.key kt with
   |some kk=>some ((match r with|none=>True|some v=>(qint v).isSome=true),upd (eY d Z) d (.u (.one (.map d))),upd (cM d O) d (some (.map kk [])))|none=>none
  |_=>none
 |none=>none
def tK (tb:Tb) (Z:Env) (O:Sto) (d:Nat) (t:TypeId) (x c:V):Ae:=match tb.ty t with
 |some ti=>match ti.desc with
  |.slice e=>match tb.ty e with
   |some te=>match x,c,(nZ (.u te.zu)).bind rq with
    |.u (.one (.d (.int .i64 n))),.u (.one (.d (.int .i64 m))),some zr=>some ((0<=n/\n<=m/\0<te.size/\0<te.bytes/\m*te.bytes<=140737488355328),upd (eY d Z) d (.u (.one (.own d))),upd (cM d O) d (some (.row te.size e (List.replicate n.toNat zr))))|_,_,_=>none
   |none=>none
  |_=>none
 |none=>none
def rEntry (Z:Env) (O:Sto) (d:Nat) (x:V):Ae:=match x with
 |.u (.one (.iter s))=>match O s with
  |some (.iter _ _ (some x))=>some (True,upd Z d (.tup [x.1.u,x.2]),O)|_=>none
 |_=>none
def rEqNil (tb:Tb) (t:TypeId) (x y:V):Bool:=match tb.ty t,x,y with
 |some ti,.u (.one (.d (.sl _ []))),.u (.one (.d .nil))=>match ti.desc with
  |.slice _=>true|_=>false
 |_,_,_=>false
section
variable {tb:Tb} {Z Z':Env} {O O':Sto} {K:A3}
theorem aNewBox_eq {d:Nat} {cs:Option As}:tJ Z O d cs K=stp (rNewBox Z O d cs) K:=by unfold tJ rNewBox;cases cs<;>simp[stp]
theorem aeff_alloc {d:Nat} {t ty:TypeId} {pos:String} {af g}:jr tb Z O { dst:=some d,op:=.alloc t,type:=ty,pos:=pos,after:=af,guard:=g } K=stp (rAlloc tb Z O d t) K:=by unfold jr rAlloc;dsimp only;rcases tb.ty t with _|ti<;>rfl
theorem aeff_box {d:Nat} {t ty:TypeId} {x:Operand} {pos:String} {af g}:jr tb Z O { dst:=some d,op:=.box t x,type:=ty,pos:=pos,after:=af,guard:=g } K=stp (rNewBox Z O d (nZ (oev Z x))) K:=by simp[jr,aNewBox_eq]
theorem aeff_store {t ty:TypeId} {x y:Operand} {pos:String} {af g}:jr tb Z O { dst:=none,op:=.store t x y,type:=ty,pos:=pos,after:=af,guard:=g } K=stp (rStore tb Z O t (oev Z x) (oev Z y)) K:=by
 unfold jr;dsimp only;unfold tV rStore;rcases tb.ty t with _|ti;{rfl};rcases oev Z x with (c|cs)|us<;>rcases nZ (oev Z y)with _|xs<;>try rfl
 ·cases c<;>rfl
 ·cases c with
  |box s off=>
   dsimp only;rcases O s with _|ob;{rfl};cases ob<;>simp[stp,and_assoc]
  |elt s i sz off=>
   dsimp only;rcases O s with _|ob;{rfl};cases ob with
   |row z e rows=>
    rcases rq xs with _|ys;{rfl};dsimp only;rcases rows[i]? with _|r;{rfl};simp[stp,and_assoc]
   |nest e ie sz' els=>
    cases e with
    |map _ _=>rfl|row e=>
    dsimp only;split;{simp[stp,and_assoc]}
    ·rename_i hne;cases xs with
     |nil=>rfl|cons c l=>
      cases l with
      |nil=>(cases c<;>first|rfl|exact absurd rfl (hne _))|cons _ _=>cases c<;>rfl
   |_=>rfl
  |_=>rfl
theorem aeff_append {d:Nat} {t ty:TypeId} {x y:Operand} {pos:String} {af g}:jr tb Z O { dst:=some d,op:=.call { callee:=.builtin .append,args:=#[x,y],argTypes:=#[t,t] },type:=ty,pos:=pos,after:=af,guard:=g } K=stp (rAppend tb Z O d t (oev Z x) (oev Z y)) K:=by
 unfold jr;dsimp only;rw[if_pos rfl];unfold nJ rAppend;rcases tb.ty t with _|ti;{rfl};dsimp only;cases ti.desc with
 |slice e=>
  dsimp only;rcases tb.ty e with _|te;{rfl};dsimp only;rcases fstRow O te.size e (oev Z x)with _|⟨so,rows⟩;{rcases tU O te.size (oev Z y)with _|news;{rfl};dsimp only;rcases fullV te.size (oev Z x)with _|rows<;>rfl};rcases tU O te.size (oev Z y)with _|news;{rfl};simp[stp,and_assoc]
 |_=>rfl
theorem aeff_mapUpdate {t ty:TypeId} {m k x:Operand} {pos:String} {af g}:jr tb Z O { dst:=none,op:=.mapUpdate t m k x,type:=ty,pos:=pos,after:=af,guard:=g } K=stp (fi tb Z O t (oev Z m) (oev Z k) (oev Z x)) K:=by
 unfold jr;dsimp only;unfold pU fi;rcases tb.ty t with _|ti;{rfl};rcases oev Z m with (c|cs)|us<;>rcases vkey (oev Z k)with _|key<;>rcases vu (oev Z x)with _|u<;>try rfl
 ·cases c<;>rfl
 ·cases c<;>rfl
 ·cases c<;>rfl
 ·cases c with
  |map s=>
   dsimp only;cases ti.desc with
   |map kt e=>
    rcases O s with _|ob;{rfl};cases ob with
    |nest e ie sz els=>
     cases e with
     |row _=>rfl|map kk ks=>rfl
    |_=>simp[stp,and_assoc]
   |_=>rfl
  |_=>rfl
theorem aeff_makeMap {d:Nat} {t ty:TypeId} {r:Option Operand} {pos:String} {af g}:jr tb Z O { dst:=some d,op:=.makeMap t r,type:=ty,pos:=pos,after:=af,guard:=g } K=stp (rMakeMap tb Z O d t (r.map (oev Z))) K:=by
 unfold jr;dsimp only;unfold oS rMakeMap;rcases tb.ty t with _|ti;{rfl};dsimp only;cases ti.desc with
 |map kt e=>
  dsimp only;rcases tb.key kt with _|kk<;>rfl
 |_=>rfl
theorem aeff_makeSlice {d:Nat} {t ty:TypeId} {x c:Operand} {pos:String} {af g}:jr tb Z O { dst:=some d,op:=.makeSlice t x c,type:=ty,pos:=pos,after:=af,guard:=g } K=stp (tK tb Z O d t (oev Z x) (oev Z c)) K:=by unfold jr;dsimp only;unfold m9 tK;rcases tb.ty t with _|ti;{rfl};grind[stp]
end
section
variable {P:Program} {cx:Cx} {tb:Tb} {all l:A6} {Z:Env} {O:Sto} {K:A3} {o:Oper} {Q:Aa} {c:Code} {run skip:Aq} {d:Ac} {op:Op} {ty:TypeId} {pos:String} {af:Array Edge} {g:Aw}
def agL (all:A6) (g:Aw) (Z:Env) (run skip:Aq) (_:Lk (all,Z,run,skip)):Prop:=lf all g Z run skip
def agd (s:Ac) (want:Bool) (Z:Env) (run skip:Aq) (_:Lk (Z,run,skip)):Prop:=match s with
 |some s=>match Z s with
  |.u (.one (.d (.bool b)))=>(b=want->run (upd Z s (.u (.one (.d (.bool want))))))/\(b=!want->skip (upd Z s (.u (.one (.d (.bool !want))))))|.tup []=>skip Z|_=>False
 |none=>False
def agv (v:V) (s:Nat) (want:Bool) (Z:Env) (run skip:Aq) (_:Lk (Z,run,skip)):Prop:=match v with|.u (.one (.d (.bool b)))=>(b=want->run (upd Z s (.u (.one (.d (.bool want))))))/\(b=!want->skip (upd Z s (.u (.one (.d (.bool !want))))))|.tup []=>skip Z|_=>False
def agb (b:Bool) (s:Nat) (want:Bool) (Z:Env) (run skip:Aq) (_:Lk (Z,run,skip)):Prop:=(b=want->run (upd Z s (.u (.one (.d (.bool want))))))/\(b=!want->skip (upd Z s (.u (.one (.d (.bool !want))))))
theorem agL_none {k}:agL all none Z run skip k=run Z:=by rfl
theorem agL_some {j:Nat} {want:Bool} {k}:agL all (some (j,want)) Z run skip k=agd (gslot all j) want Z run skip .mk:=by rfl
theorem agd_some {s:Nat} {want:Bool} {k}:agd (some s) want Z run skip k=agv (Z s) s want Z run skip .mk:=by rfl
theorem agv_b {b:Bool} {s:Nat} {want:Bool} {k}:agv (.u (.one (.d (.bool b)))) s want Z run skip k=agb b s want Z run skip .mk:=by rfl
theorem agv_0 {s:Nat} {want:Bool} {k}:agv (.tup []) s want Z run skip k=skip Z:=by rfl
theorem agb_t {b:Bool} {s:Nat} {k}:agb b s true Z run skip k=((b=true->run (upd Z s (.u (.one (.d (.bool true))))))/\(b=false->skip (upd Z s (.u (.one (.d (.bool false))))))):=by rfl
theorem agb_f {b:Bool} {s:Nat} {k}:agb b s false Z run skip k=((b=false->run (upd Z s (.u (.one (.d (.bool false))))))/\(b=true->skip (upd Z s (.u (.one (.d (.bool true))))))):=by rfl
theorem agv_tt {v:V} {s:Nat} {k} (hv:v=.u (.one (.d (.bool true)))) (h:Z s=.u (.one (.d (.bool true)))):agv v s true Z run skip k=run Z:=by grind[agv_b,agb_t,ly]
theorem agv_ff {v:V} {s:Nat} {k} (hv:v=.u (.one (.d (.bool false)))) (h:Z s=.u (.one (.d (.bool false)))):agv v s false Z run skip k=run Z:=by grind[agv_b,agb_f,ly]
theorem agv_tf {v:V} {s:Nat} {k} (hv:v=.u (.one (.d (.bool true)))) (h:Z s=.u (.one (.d (.bool true)))):agv v s false Z run skip k=skip Z:=by grind[agv_b,agb_f,ly]
theorem agv_ft {v:V} {s:Nat} {k} (hv:v=.u (.one (.d (.bool false)))) (h:Z s=.u (.one (.d (.bool false)))):agv v s true Z run skip k=skip Z:=by grind[agv_b,agb_t,ly]
theorem gslot_zero:gslot ({ dst:=d,op:=op,type:=ty,pos:=pos,after:=af,guard:=g }::l) 0=d:=rfl
theorem gslot_succ {n:Nat}:gslot (o::l) (n+1)=gslot l n:=by simp[gslot]
def lP (P:Program) (cx:Cx) (tb:Tb) (all l:A6) (Z:Env) (O:Sto) (K:A3) (_:Lk (all,l,K)):Prop:=aops P cx tb all l Z O K
def astL (P:Program) (cx:Cx) (tb:Tb) (op:Op) (d:Ac) (Z:Env) (O:Sto) (K:A3) (_:Lk (Z,O,K)):Prop:=match ep op with
 |some c=>match eE Z c with
  |some (f,args)=>match tb.call f args with
   |some v=>K (cK Z d v) O|none=>match tb.eff f args d Z O with
    |some T=>T K|none=>oU P cx f args Z O d K
  |none=>False
 |none=>match qev tb Z O op with
  |some v=>K (cK Z d v) O|none=>aeffP tb Z O { dst:=d,op:=op,type:=0,pos := "",after:=#[],guard:=none } K
def ast1 (P:Program) (cx:Cx) (tb:Tb) (gc:Option Call) (op:Op) (d:Ac) (Z:Env) (O:Sto) (K:A3) (_:Lk (op,Z,O,K)):Prop:=match gc with
 |some c=>match eE Z c with
  |some (f,args)=>match tb.call f args with
   |some v=>K (cK Z d v) O|none=>match tb.eff f args d Z O with
    |some T=>T K|none=>oU P cx f args Z O d K
  |none=>False
 |none=>match qev tb Z O op with
  |some v=>K (cK Z d v) O|none=>aeffP tb Z O { dst:=d,op:=op,type:=0,pos := "",after:=#[],guard:=none } K
def ast2 (tb:Tb) (v:At) (op:Op) (d:Ac) (Z:Env) (O:Sto) (K:A3) (_:Lk (op,Z,O,K)):Prop:=match v with|some v=>K (cK Z d v) O|none=>aeffP tb Z O { dst:=d,op:=op,type:=0,pos := "",after:=#[],guard:=none } K
def astc (P:Program) (cx:Cx) (tb:Tb) (fa:Option (FuncId×Ao)) (d:Ac) (Z:Env) (O:Sto) (K:A3) (_:Lk (Z,O,K)):Prop:=match fa with
 |some (f,args)=>match tb.call f args with
   |some v=>K (cK Z d v) O|none=>match tb.eff f args d Z O with
    |some T=>T K|none=>oU P cx f args Z O d K
 |none=>False
def ast3 (P:Program) (cx:Cx) (tb:Tb) (r:At) (f:FuncId) (args:Ao) (d:Ac) (Z:Env) (O:Sto) (K:A3) (_:Lk (Z,O,K)):Prop:=match r with
 |some v=>K (cK Z d v) O|none=>match tb.eff f args d Z O with
  |some T=>T K|none=>oU P cx f args Z O d K
def ast4 (P:Program) (cx:Cx) (r:Option (A3->Prop)) (f:FuncId) (args:Ao) (d:Ac) (Z:Env) (O:Sto) (K:A3) (_:Lk (Z,O,K)):Prop:=match r with|some T=>T K|none=>oU P cx f args Z O d K
def CallL (P:Program) (cx:Cx) (f:FuncId) (args:Ao) (d:Ac) (Z:Env) (O:Sto) (K:A3) (_:Lk (Z,O,K)):Prop:=oU P cx f args Z O d K
def pm (tb:Tb) (op:Op) (d:Ac) (Z:Env) (O:Sto) (K:A3) (_:Lk (op,Z,O,K)):Prop:=jr tb Z O { dst:=d,op:=op,type:=0,pos := "",after:=#[],guard:=none } K
def stpL (r:Ae) (K:A3) (_:Lk K):Prop:=stp r K
theorem aopsL_nil {k}:lP P cx tb all [] Z O K k=K Z O:=by rfl
theorem aopsL_cons {k}:lP P cx tb all ({ dst:=d,op:=op,type:=ty,pos:=pos,after:=af,guard:=g }::l) Z O K k =
  agL all g Z (λZ=>astL P cx tb op d Z O (λZ O=>lP P cx tb all l Z O K .mk) .mk) (λZ=>lP P cx tb all l (cK Z d (.tup [])) O K .mk) .mk:=by rfl
theorem astL_eq {k}:astL P cx tb op d Z O K k=ast1 P cx tb (ep op) op d Z O K .mk:=by rfl
theorem ast1_none {k}:ast1 P cx tb none op d Z O K k=ast2 tb (qev tb Z O op) op d Z O K .mk:=by rfl
theorem ast1_some {c:Call} {k}:ast1 P cx tb (some c) op d Z O K k=astc P cx tb (eE Z c) d Z O K .mk:=by rfl
theorem ast2_some {v:V} {k}:ast2 tb (some v) op d Z O K k=K (cK Z d v) O:=by rfl
def aefP (r:Ae) (tb:Tb) (op:Op) (d:Ac) (Z:Env) (O:Sto) (K:A3) (_:Lk (op,Z,O,K)):Prop:=match r with|some (p,Z',O')=>p/\K Z' O'|none=>pm tb op d Z O K .mk
theorem aefP_none {k}:aefP none tb op d Z O K k=pm tb op d Z O K .mk:=by rfl
theorem aefP_some {p:Prop} {Z':Env} {O':Sto} {k}:aefP (some (p,Z',O')) tb op d Z O K k=(p/\K Z' O'):=by rfl
theorem ast2_none {k}:ast2 tb none op d Z O K k=aefP (preR tb Z O op d) tb op d Z O K .mk:=by rfl
theorem astc_some {f:FuncId} {args:Ao} {k}:astc P cx tb (some (f,args)) d Z O K k=ast3 P cx tb (tb.call f args) f args d Z O K .mk:=by rfl
theorem ast3_none {f:FuncId} {args:Ao} {k}:ast3 P cx tb none f args d Z O K k=ast4 P cx (tb.eff f args d Z O) f args d Z O K .mk:=by rfl
theorem ast4_none {f:FuncId} {args:Ao} {k}:ast4 P cx none f args d Z O K k=CallL P cx f args d Z O K .mk:=by rfl
theorem stpL_some {p:Prop} {k}:stpL (some (p,Z,O)) K k=(p/\K Z O):=by rfl
theorem aefL_alloc {d:Nat} {t:TypeId} {k}:pm tb (.alloc t) (some d) Z O K k=stpL (rAlloc tb Z O d t) K .mk:=by unfold pm stpL;rw[aeff_alloc]
theorem aefL_box {d:Nat} {t:TypeId} {x:Operand} {k}:pm tb (.box t x) (some d) Z O K k=stpL (rNewBox Z O d (nZ (oev Z x))) K .mk:=by unfold pm stpL;rw[aeff_box]
theorem aefL_store {t:TypeId} {x y:Operand} {k}:pm tb (.store t x y) none Z O K k=stpL (rStore tb Z O t (oev Z x) (oev Z y)) K .mk:=by unfold pm stpL;rw[aeff_store]
theorem aefL_append {d:Nat} {t:TypeId} {x y:Operand} {k}:pm tb (.call { callee:=.builtin .append,args:=#[x,y],argTypes:=#[t,t] }) (some d) Z O K k=stpL (rAppend tb Z O d t (oev Z x) (oev Z y)) K .mk:=by unfold pm stpL;rw[aeff_append]
theorem aefL_mapUpdate {t:TypeId} {m x y:Operand} {k}:pm tb (.mapUpdate t m x y) none Z O K k=stpL (fi tb Z O t (oev Z m) (oev Z x) (oev Z y)) K .mk:=by unfold pm stpL;rw[aeff_mapUpdate]
theorem aefL_makeMap {d:Nat} {t:TypeId} {r:Option Operand} {k}:pm tb (.makeMap t r) (some d) Z O K k=stpL (rMakeMap tb Z O d t (r.map (oev Z))) K .mk:=by unfold pm stpL;rw[aeff_makeMap]
theorem aefL_makeSlice {d:Nat} {t:TypeId} {x c:Operand} {k}:pm tb (.makeSlice t x c) (some d) Z O K k=stpL (tK tb Z O d t (oev Z x) (oev Z c)) K .mk:=by unfold pm stpL;rw[aeff_makeSlice]
end
section
variable {P:Program} {cx:Cx} {tb:Tb} {all l:A6} {Z:Env} {O:Sto} {K:A3} {o:Oper} {Q:Aa} {c:Code} {d:Ac} {op:Op} {ty:TypeId} {pos:String} {af:Array Edge} {g:Aw} {k:Az} {Ja:Aq}
def qopsL (P:Program) (tb:Tb) (all:A6) (O:Sto) (l:A6) (Z:Env) (Ja:Aq) (_:Lk (all,l,O,Ja)):Prop:=qops P tb all O l Z Ja
def qstL (P:Program) (tb:Tb) (op:Op) (Z:Env) (O:Sto) (k:Az) (_:Lk (Z,O,k)):Prop:=match ep op with
 |some c=>match eE Z c with
  |some (f,args)=>match tb.call f args with
   |some v=>k v|none=>qcall P O f args k
  |none=>False
 |none=>match qev tb Z O op with
  |some v=>k v|none=>False
def qst1 (P:Program) (tb:Tb) (gc:Option Call) (op:Op) (Z:Env) (O:Sto) (k:Az) (_:Lk (op,Z,O,k)):Prop:=match gc with
 |some c=>match eE Z c with
  |some (f,args)=>match tb.call f args with
   |some v=>k v|none=>qcall P O f args k
  |none=>False
 |none=>match qev tb Z O op with
  |some v=>k v|none=>False
def qst2 (v:At) (k:Az) (_:Lk k):Prop:=match v with|some v=>k v|none=>False
def qstc (P:Program) (tb:Tb) (fa:Option (FuncId×Ao)) (O:Sto) (k:Az) (_:Lk (O,k)):Prop:=match fa with
 |some (f,args)=>match tb.call f args with
   |some v=>k v|none=>qcall P O f args k
 |none=>False
def qst3 (P:Program) (r:At) (f:FuncId) (args:Ao) (O:Sto) (k:Az) (_:Lk (O,k)):Prop:=match r with|some v=>k v|none=>qcall P O f args k
def qcallL (P:Program) (f:FuncId) (args:Ao) (O:Sto) (k:Az) (_:Lk (O,k)):Prop:=qcall P O f args k
theorem qopsL_nil {j}:qopsL P tb all O [] Z Ja j=Ja Z:=by rfl
theorem qopsL_cons {j}:qopsL P tb all O ({ dst:=d,op:=op,type:=ty,pos:=pos,after:=af,guard:=g }::l) Z Ja j =
  agL all g Z (λZ=>qstL P tb op Z O (λv=>qopsL P tb all O l (cK Z d v) Ja .mk) .mk) (λZ=>qopsL P tb all O l (cK Z d (.tup [])) Ja .mk) .mk:=by rfl
theorem qstL_eq {j}:qstL P tb op Z O k j=qst1 P tb (ep op) op Z O k .mk:=by rfl
theorem qst1_none {j}:qst1 P tb none op Z O k j=qst2 (qev tb Z O op) k .mk:=by rfl
theorem qst1_some {c:Call} {j}:qst1 P tb (some c) op Z O k j=qstc P tb (eE Z c) O k .mk:=by rfl
theorem qst2_some {v:V} {j}:qst2 (some v) k j=k v:=by rfl
theorem qstc_some {f:FuncId} {args:Ao} {j}:qstc P tb (some (f,args)) O k j=qst3 P (tb.call f args) f args O k .mk:=by rfl
theorem qst3_none {f:FuncId} {args:Ao} {j}:qst3 P none f args O k j=qcallL P f args O k .mk:=by rfl
theorem putE_some {d:Nat} {v:V}:cK Z (some d) v=upd Z d v:=by unfold cK;rfl
theorem wipeE_apply (d:Nat) (Z:Env) (t:Nat):eY d Z t=(Z t).wipe d:=rfl
theorem wipeS_apply (d:Nat) (O:Sto) (t:Nat):cM d O t=(O t).bind (Ob.wipe d):=rfl
theorem drop_apply (s:Ac) (O:Sto) (t:Nat):drop s O t=if s=some t then none else O t:=rfl
theorem cW (s:Nat) (O:Sto) (t:Nat):lm s O t=match O t with|some (.iter m l la)=>if m=s then none else some (.iter m l la)|o=>o:=by rfl
theorem vwipe_u (d:Nat) (x:U):V.wipe d (.u x)=.u (x.wipe d):=rfl
theorem vwipe_tup (d:Nat) (us:List U):V.wipe d (.tup us)=.tup (us.map (U.wipe d)):=rfl
theorem uwipe_one (d:Nat) (c:C):U.wipe d (.one c)=.one (c.wipe d):=rfl
theorem uwipe_agg (d:Nat) (cs:As):U.wipe d (.agg cs)=.agg (cs.map (C.wipe d)):=rfl
theorem cwipe_top (d:Nat):C.wipe d .top=.top:=rfl
theorem cwipe_d (d:Nat) (x:L):C.wipe d (.d x)=.d x:=rfl
theorem cwipe_ref (d:Nat) (xs:Ak) (o:Nat):C.wipe d (.ref xs o)=.ref xs o:=rfl
theorem cwipe_nilmap (d:Nat):C.wipe d .nilmap=.nilmap:=rfl
theorem cwipe_box (d t o:Nat):C.wipe d (.box t o)=if t=d then .top else .box t o:=rfl
theorem cwipe_own (d t:Nat):C.wipe d (.own t)=if t=d then .top else .own t:=rfl
theorem cwipe_elt (d t i z o:Nat):C.wipe d (.elt t i z o)=if t=d then .top else .elt t i z o:=rfl
theorem cwipe_map (d t:Nat):C.wipe d (.map t)=if t=d then .top else .map t:=rfl
theorem cwipe_fn (d:Nat) (f:FuncId) (caps:As):C.wipe d (.fn f caps)=if C.ments d caps then .top else .fn f caps:=rfl
end
attribute [simp] gslot_zero gslot_succ
attribute [simp] agL_none agL_some agd_some agv_0 aopsL_nil aopsL_cons astL_eq ast1_none ast1_some ast2_some ast2_none aefP_none aefP_some preR preD preT preV astc_some ast3_none ast4_none stpL_some aefL_alloc aefL_box aefL_store aefL_append aefL_mapUpdate aefL_makeMap aefL_makeSlice qopsL_nil qopsL_cons qstL_eq qst1_none qst1_some qst2_some qstc_some qst3_none
attribute [simp] agv_b
attribute [simp] agv_tt agv_ff agv_tf agv_ft
attribute [simp] ep eE qev oev constV ug upd_apply putE_some wipeE_apply wipeS_apply drop_apply cW vwipe_u vwipe_tup uwipe_one uwipe_agg cwipe_top cwipe_d cwipe_ref cwipe_nilmap cwipe_box cwipe_own cwipe_elt cwipe_map cwipe_fn C.ments C.ment Ob.wipe rEqNil rNewBox rAlloc nh okZero allOne Value.oneCell' rStore rAppend fi rMapN rMakeMap tK rEntry nZ noTop memOf qload qfield qbin qbuild qbuildA offsA oT qextract qlenB eC qpick pickV isShift fillC cdata rq sP ta mset mdel vkey vu qint qidx oy tG lenFits fstRow tU cints TI.agg env0 sto0 V.frz U.frz C.frz V.free U.free U.frees C.free C.frees iE resUs resU Key.fits Key.val Key.u
