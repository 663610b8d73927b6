/- Lemmas for the law. -/
import Derived.Test.YtpeabgakdpojlaaGreatDoorAmX
namespace Go.AM
open Go.RowKit
theorem C.wipe_eq (d:Nat) (c:C):c.wipe d=bif c.ment d then .top else c:=by
 cases c with
 |box t o=>simp[C.wipe,C.ment,Bool.cond_eq_ite]|own t=>simp[C.wipe,C.ment,Bool.cond_eq_ite]|elt t i z o=>simp[C.wipe,C.ment,Bool.cond_eq_ite]|map t=>simp[C.wipe,C.ment,Bool.cond_eq_ite]|iter t=>simp[C.wipe,C.ment,Bool.cond_eq_ite]|fn f caps=>(cases h:C.ments d caps<;>simp[C.wipe,C.ment,h])|_=>simp[C.wipe,C.ment]
theorem C.ment_top (d:Nat):C.ment d .top=false:=by simp[C.ment]
theorem C.wipe_comm (d e:Nat) (c:C):(c.wipe d).wipe e=(c.wipe e).wipe d:=by simp only[C.wipe_eq];cases h1:c.ment d<;>cases h2:c.ment e<;>simp[h1,h2,C.ment_top]
theorem C.wipe_idem (d:Nat) (c:C):(c.wipe d).wipe d=c.wipe d:=by simp only[C.wipe_eq];cases h1:c.ment d<;>simp[h1,C.ment_top]
theorem U.wipe_comm (d e:Nat) (u:U):(u.wipe d).wipe e=(u.wipe e).wipe d:=by
 cases u with
 |one c=>simp only[U.wipe,C.wipe_comm d e]|agg cs=>simp only[U.wipe,List.map_map];congr 1;exact List.map_congr_left λc _=>C.wipe_comm d e c
theorem U.wipe_idem (d:Nat) (u:U):(u.wipe d).wipe d=u.wipe d:=by
 cases u with
 |one c=>simp only[U.wipe,C.wipe_idem]|agg cs=>simp only[U.wipe,List.map_map];congr 1;exact List.map_congr_left λc _=>C.wipe_idem d c
theorem V.wipe_comm (d e:Nat) (v:V):(v.wipe d).wipe e=(v.wipe e).wipe d:=by
 cases v with
 |u u=>simp only[V.wipe,U.wipe_comm d e]|tup us=>simp only[V.wipe,List.map_map];congr 1;exact List.map_congr_left λc _=>U.wipe_comm d e c
theorem V.wipe_idem (d:Nat) (v:V):(v.wipe d).wipe d=v.wipe d:=by
 cases v with
 |u u=>simp only[V.wipe,U.wipe_idem]|tup us=>simp only[V.wipe,List.map_map];congr 1;exact List.map_congr_left λc _=>U.wipe_idem d c
def V.wipes:A5->V->V|[],v=>v|d::ds,v=>V.wipes ds (v.wipe d)
theorem wipes_nil (v:V):V.wipes [] v=v:=rfl
theorem qv (d:Nat) (ds:A5) (v:V):V.wipes (d::ds) v=V.wipes ds (v.wipe d):=rfl
theorem tL:∀(ds:A5) (d:Nat) (v:V),(V.wipes ds v).wipe d=V.wipes ds (v.wipe d)|[],_,_=>rfl|e::ds,d,v=>by rw[qv,qv,tL ds d,V.wipe_comm]
theorem lZ:∀{ds:A5} {d:Nat} (v:V),d∈ds->(V.wipes ds v).wipe d=V.wipes ds v|e::ds,d,v,h=>by rw[tL,qv,qv];rcases List.mem_cons.1 h with rfl|h;{rw[V.wipe_idem]};{rw[V.wipe_comm,<- tL,lZ _ h]}
def iy (ds:A5) (Z:Env):Env:=λt=>(Z t).wipes ds
theorem wipesE_apply (ds:A5) (Z:Env) (t:Nat):iy ds Z t=(Z t).wipes ds:=rfl
theorem vsim_wipes {E:A7} {w:World} {F:Ad}:∀(ds:A5) (v:V) (u:Value),bI E w F v u->bI E w F (V.wipes ds v) u|[],_,_,h=>h|_::ds,v,u,h=>vsim_wipes ds _ u (qg (λ_ _=>rfl) v u h)
theorem Sim.wipes {cx:Cx} {E:A7} {Z:Env} {O:Sto} {a:Act} {w:World} (h:Sim cx E Z O a w) (ds:A5):Sim cx E (iy ds Z) O a w :=⟨h.core,λt=>vsim_wipes ds _ _ (h.slots t),h.defers,h.room⟩
def clean (e:Nat) (O:Sto):Prop:=∀t o,O t=some o->o.wipe e=some o
theorem C.ment_of {e:Nat} {c:C} (h:c.wipe e=c):c.ment e=false:=by rw[C.wipe_eq] at h;cases hm:c.ment e;{rfl};{rw[hm] at h;simp only[cond_true] at h;rw[<- h,C.ment_top] at hm;cases hm}
theorem rX {e:Nat}:∀{cs:As},cs.map (C.wipe e)=cs->∀c∈cs,c.wipe e=c|[],_,_,h=>by simp at h|c::cs,h,d,hd=>by simp only[List.map_cons,List.cons.injEq] at h;rcases List.mem_cons.1 hd with rfl|hd;{exact h.1};{exact rX h.2 d hd}
theorem ments_of {e:Nat}:∀{cs:As},C.ments e cs=false->∀c∈cs,c.ment e=false|[],_,_,h=>by simp at h|c::cs,h,d,hd=>by simp only[C.ments,Bool.or_eq_false_iff] at h;rcases List.mem_cons.1 hd with rfl|hd;{exact h.1};{exact ments_of h.2 d hd}
theorem memOf_frame {e:Nat} {O:Sto} {x:Ab} {c:C} (h:c.ment e=false):memOf (upd O e x) c=memOf O c:=by
 cases c with
 |box t o=>simp only[C.ment,beq_eq_false_iff_ne,ne_eq] at h;simp only[memOf,bz _ _ h]|elt t i z o=>simp only[C.ment,beq_eq_false_iff_ne,ne_eq] at h;simp only[memOf,bz _ _ h]|_=>rfl
theorem vment {e:Nat} {c:C} (h:V.wipe e (.u (.one c))=.u (.one c)):c.ment e=false:=by simp only[V.wipe,U.wipe,V.u.injEq,U.one.injEq] at h;exact C.ment_of h
theorem qload_frame {tb:Tb} {e:Nat} {O:Sto} {x:Ab} {t:TypeId} {v:V} (h:v.wipe e=v):qload tb (upd O e x) t v=qload tb O t v:=by unfold qload;split;{rename_i ti c h1;rw[memOf_frame (vment h)]};{rfl}
theorem qindex_frame {tb:Tb} {e:Nat} {O:Sto} {x:Ab} {t:TypeId} {v i:V} (h:v.wipe e=v):pH tb (upd O e x) t v i=pH tb O t v i:=by unfold pH;split;{rename_i ti c k n h1;have hm:=vment h;split;{split;{rfl};{simp only[C.ment,beq_eq_false_iff_ne,ne_eq] at hm;rw[bz _ _ hm]};{rfl}};{rfl};{rfl}};{rfl}
theorem qlen_frame {e:Nat} {O:Sto} {x:Ab} {v:V} (h:v.wipe e=v):qlen (upd O e x) v=qlen O v:=by
 cases v with
 |u y=>
  cases y with
  |one c=>
   have hm:=vment h;cases c with
   |own s=>simp only[C.ment,beq_eq_false_iff_ne,ne_eq] at hm;simp only[qlen,bz _ _ hm]|map s=>simp only[C.ment,beq_eq_false_iff_ne,ne_eq] at hm;simp only[qlen,bz _ _ hm]|d l=>(cases l<;>rfl)|_=>rfl
  |agg cs=>rfl
 |tup us=>rfl
theorem qidxP_frame {tb:Tb} {e:Nat} {O:Sto} {x:Ab} {t:TypeId} {v i:V} (h:v.wipe e=v):qidxP tb (upd O e x) t v i=qidxP tb O t v i:=by unfold qidxP;split;{rename_i h1 h2;have hm:=vment h;simp only[C.ment,beq_eq_false_iff_ne,ne_eq] at hm;simp only[bz _ _ hm]};{rfl}
theorem qsubO_frame {tb:Tb} {e:Nat} {O:Sto} {x:Ab} {t:TypeId} {v:V} {lo hi mx:At} (h:v.wipe e=v):qsubO tb (upd O e x) t v lo hi mx=qsubO tb O t v lo hi mx:=by unfold qsubO;split;{rename_i h1;have hm:=vment h;simp only[C.ment,beq_eq_false_iff_ne,ne_eq] at hm;simp only[bz _ _ hm]};{rfl}
theorem qlookup_frame {tb:Tb} {e:Nat} {O:Sto} {x:Ab} {t:TypeId} {m k:V} {ok:Bool} (h:m.wipe e=m):eC tb (upd O e x) t m k ok=eC tb O t m k ok:=by unfold eC;split;{rename_i ti s key h1 h2;have hm:=vment h;simp only[C.ment,beq_eq_false_iff_ne,ne_eq] at hm;simp only[bz _ _ hm]};{rfl}
theorem qlookN_frame {tb:Tb} {e:Nat} {O:Sto} {x:Ab} {t:TypeId} {m k:V} {ok:Bool} (h:m.wipe e=m):qlookN tb (upd O e x) t m k ok=qlookN tb O t m k ok:=by unfold qlookN;split;{rename_i ti s key h1 h2;have hm:=vment h;simp only[C.ment,beq_eq_false_iff_ne,ne_eq] at hm;simp only[bz _ _ hm]};{rfl}
theorem rowsV_frame {e:Nat} {O:Sto} {x:Ab} {v:V} (h:v.wipe e=v):rowsV (upd O e x) v=rowsV O v:=by
 cases v with
 |u y=>
  cases y with
  |one c=>
   have hm:=vment h;cases c with
   |own s=>simp only[C.ment,beq_eq_false_iff_ne,ne_eq] at hm;simp only[rowsV,bz _ _ hm]|d l=>(cases l<;>rfl)|_=>rfl
  |agg cs=>rfl
 |tup us=>rfl
theorem qcnv_frame {tb:Tb} {e:Nat} {O:Sto} {x:Ab} {src dst:TypeId} {v:V} (h:v.wipe e=v):qcnv tb (upd O e x) src dst v=qcnv tb O src dst v:=by unfold qcnv;split;{rfl};{unfold qstr;simp only[rowsV_frame h]}
theorem qev_frame {tb:Tb} {e:Nat} {O:Sto} {x:Ab} {Z:Env} {op:Op} (h:∀z∈op.operands,(oev Z z).wipe e=oev Z z):qev tb Z (upd O e x) op=qev tb Z O op:=by
 cases op<;>simp only[qev]
 case load t z=>exact qload_frame (h z (by simp[Op.operands]))
 case indexAddr t z i=>rw[qindex_frame (h z (by simp[Op.operands])),qidxP_frame (h z (by simp[Op.operands]))]
 case slice t z lo hi mx=>rw[qsubO_frame (h z (by simp[Op.operands]))]
 case lookup t m k ok=>rw[qlookup_frame (h m (by simp[Op.operands])),qlookN_frame (h m (by simp[Op.operands]))]
 case makeFunc fn first caps=>cases fn<;>rfl
 case convert src dst z=>exact qcnv_frame (h z (by simp[Op.operands]))
 case call c=>
  split;{rename_i z t hc ha hts;unfold qlenB;split;{rw[qlen_frame (h z (by simp[Op.operands,Call.operands];exact .inr (by rw[<- Array.mem_toList_iff,ha];simp)))]};{rfl}};all_goals rfl
theorem brw_frame {e:Nat} {O:Sto} {x:Ab} (hσ:clean e O):∀(n:Nat) (c:C),c.ment e=false->C.brw (upd O e x) n c=C.brw O n c
 |0,_,_=>rfl|n+1,c,h=>by
  cases c with
  |own s=>simp only[C.ment,beq_eq_false_iff_ne,ne_eq] at h;simp only[C.brw,bz _ _ h]|box s o=>
   simp only[C.ment,beq_eq_false_iff_ne,ne_eq] at h;simp only[C.brw,bz _ _ h];cases hs:O s with
   |none=>rfl|some ob=>
    cases ob with
    |box cs=>have hc:=hσ s _ hs;simp only[Ob.wipe,Option.some.injEq,Ob.box.injEq] at hc;have:cs.map (C.brw (upd O e x) n)=cs.map (C.brw O n):=List.map_congr_left λc hcm=>brw_frame hσ n c (C.ment_of (rX hc c hcm));simp only[this]|_=>rfl
  |fn f caps=>simp only[C.ment] at h;simp only[C.brw];rw[List.map_congr_left λc hcm=>brw_frame hσ n c (ments_of h c hcm)]|sub s z a m=>simp only[C.ment,beq_eq_false_iff_ne,ne_eq] at h;simp only[C.brw,bz _ _ h]|_=>rfl
theorem ubrw_frame {e:Nat} {O:Sto} {x:Ab} (hσ:clean e O) (u:U) (h:u.wipe e=u):U.brw (upd O e x) u=U.brw O u:=by
 cases u with
 |one c=>simp only[U.wipe,U.one.injEq] at h;simp only[U.brw,brw_frame hσ 4 c (C.ment_of h)]|agg cs=>simp only[U.wipe,U.agg.injEq] at h;simp only[U.brw];rw[List.map_congr_left λc hc=>brw_frame hσ 4 c (C.ment_of (rX h c hc))]
theorem vbrw_frame {e:Nat} {O:Sto} {x:Ab} (hσ:clean e O) (v:V) (h:v.wipe e=v):V.brw (upd O e x) v=V.brw O v:=by
 cases v with
 |u u=>simp only[V.wipe,V.u.injEq] at h;simp only[V.brw,ubrw_frame hσ u h]|tup us=>
  simp only[V.wipe,V.tup.injEq] at h;simp only[V.brw]
  congr 1
  refine List.map_congr_left λu hu=>ubrw_frame hσ u ?_;have:∀{us:List U},us.map (U.wipe e)=us->∀u∈us,u.wipe e=u:=by
   intro us;induction us with
   |nil=>intro _ u hu;simp at hu|cons y us ih=>intro h u hu;simp only[List.map_cons,List.cons.injEq] at h;rcases List.mem_cons.1 hu with rfl|hu;{exact h.1};{exact ih h.2 u hu}
  exact this h u hu
theorem callArgs_wipe {e:Nat} {Z:Env} {c:Call} {f:FuncId} {args:Ao} (h:∀z∈c.operands,(oev Z z).wipe e=oev Z z) (ha:eE Z c=some (f,args)):∀v∈args,v.wipe e=v:=by unfold eE at ha;split at ha;{rename_i y hy;split at ha;{rename_i f' caps hv;simp only[Option.some.injEq,Prod.mk.injEq] at ha;obtain⟨rfl,rfl⟩:=ha;intro v hvm;rcases List.mem_append.1 hvm with hvm|hvm;{obtain⟨z,hz,rfl⟩:=List.mem_map.1 hvm;exact h z (by simp only[Call.operands];exact Array.mem_append.2 (.inr (by simpa using hz)))};{obtain⟨c',hc',rfl⟩:=List.mem_map.1 hvm;have:=h y (by simp[Call.operands,hy]);rw[hv] at this;have:=vment this;simp only[C.ment] at this;simp only[V.wipe,U.wipe,C.wipe_eq,ments_of this c' hc',cond_false]}};{cases ha}};{cases ha}
theorem qval_frame {P:Program} {tb:Tb} {e:Nat} {O:Sto} {x:Ab} {Z:Env} {o:Oper} {v:V} (hσ:clean e O) (h:∀z∈o.op.operands,(oev Z z).wipe e=oev Z z) (hv:tN P tb O o Z v):tN P tb (upd O e x) o Z v:=by unfold tN at hv⊢;split;{rename_i c hc;rw[hc] at hv;simp only at hv;obtain⟨f,args,ha,hq⟩:=hv;refine⟨f,args,ha,?_⟩;unfold QCall at hq⊢;have hw:=callArgs_wipe (e:=e) (λz hz=>h z (by rw[(lX hc).1];exact hz)) ha;rwa [List.map_congr_left λv hv=>vbrw_frame (x:=x) hσ v (hw v hv)]};{rename_i hc;rw[hc] at hv;simp only at hv;rw[qev_frame h];exact hv}
def effOp:Op->Bool
 |.alloc _=>true|.box _ _=>true|.store _ _ _=>true|.makeSlice _ _ _=>true|.makeMap _ _=>true|.mapUpdate _ _ _ _=>true|.call c=>match c.callee with
  |.builtin .append=>true|_=>false
 |_=>false
def wipeD (d:Ac) (Z:Env):Env:=match d with|some d=>eY d Z|none=>Z
structure EffTo (tb:Tb) (o:Oper) (Z:Env) (O:Sto) (v:V) (O':Sto):Prop where
 run:∀(Z':Env) (K':A3),(∀z∈o.op.operands,oev Z' z=oev Z z)->K' (cK (wipeD o.dst Z') o.dst v) O'->jr tb Z' O o K'
 han:∀e,o.dst≠some e->v.wipe e=v
abbrev Flt:=Option (Nat×Ob)
def CallTo (P:Program) (cx:Cx) (fl:Flt) (f:FuncId) (args:Ao) (d:Ac) (ns:A5) (O:Sto) (v:V) (O':Sto):Prop :=(∀(Z':Env) (K':A3),K' (cK (iy ns Z') d v) O'->oU P cx f args Z' O d K') /\ ∀e cs,fl=some (e,.box cs)->(∀(Z':Env) (K':A3),K' (cK (iy ns Z') d v) (upd O' e (some (.box cs)))->oU P cx f args Z' (upd O e (some (.box cs))) d K')/\(clean e O->clean e O')
def CallE (P:Program) (cx:Cx) (tb:Tb) (fl:Flt) (f:FuncId) (args:Ao) (d:Ac) (ns later:A5) (O:Sto) (k:V->Sto->Prop):Prop :=tb.call f args=none/\(∀Z' O',tb.eff f args d Z' O'=none)/\∃v O',CallTo P cx fl f args d ns O v O'/\(∀e∈later,v.wipe e=v)/\k v O'
section
variable {P:Program} {tb:Tb} {cx:Cx} {Z Z':Env} {O O':Sto} {o:Oper} {K:A3}
theorem newBox_to {d:Nat} {cs:Option As} (h:tJ Z O d cs K):∃O',(∀(Z':Env) (K':A3),K' (upd (eY d Z') d (.u (.one (.box d 0)))) O'->tJ Z' O d cs K')/\K (upd (eY d Z) d (.u (.one (.box d 0)))) O':=by unfold tJ at h;split at h;{exact⟨_,λZ' K' hk=>⟨h.1,hk⟩,h.2⟩};{exact h.elim}
theorem alloc_to {d:Nat} {ti:TI} (h:aAllocBox ti Z O d K):∃O',(∀(Z':Env) (K':A3),K' (upd (eY d Z') d (.u (.one (.box d 0)))) O'->aAllocBox ti Z' O d K')/\K (upd (eY d Z) d (.u (.one (.box d 0)))) O' :=⟨_,λ_ _ hk=>⟨h.1,hk⟩,h.2⟩
theorem append_to {d:Nat} {t:TypeId} {x y:V} (h:nJ tb Z O d t x y K):∃O',(∀(Z':Env) (K':A3),K' (upd (eY d Z') d (.u (.one (.own d)))) O'->nJ tb Z' O d t x y K')/\K (upd (eY d Z) d (.u (.one (.own d)))) O':=by unfold nJ at h;split at h;{rename_i ti h1;split at h;{rename_i e h2;split at h;{rename_i te h3;split at h;{rename_i so rows news h4 h5;refine⟨_,λZ' K' hk=>?_,h.2.2.2⟩;unfold nJ;simp only[h1,h2,h3,h4,h5];exact⟨h.1,h.2.1,h.2.2.1,hk⟩};{rename_i news h4 h5;split at h;{rename_i rows h6;refine⟨_,λZ' K' hk=>?_,h.2⟩;unfold nJ;simp only[h1,h2,h3,h4,h5,h6];exact⟨h.1,hk⟩};{exact h.elim}};{exact h.elim}};{exact h.elim}};{exact h.elim}};{exact h.elim}
theorem makeSlice_to {d:Nat} {t:TypeId} {x c:V} (h:m9 tb Z O d t x c K):∃O',(∀(Z':Env) (K':A3),K' (upd (eY d Z') d (.u (.one (.own d)))) O'->m9 tb Z' O d t x c K')/\K (upd (eY d Z) d (.u (.one (.own d)))) O':=by unfold m9 at h;split at h;{rename_i ti h1;split at h;{rename_i e h2;split at h;{rename_i te h3;split at h;{rename_i n m zr h4;refine⟨_,λZ' K' hk=>?_,h.2⟩;unfold m9;simp only[h1,h2,h3,h4];exact⟨h.1,hk⟩};{exact h.elim}};{exact h.elim}};{exact h.elim}};{exact h.elim}
theorem makeMap_to {d:Nat} {t:TypeId} {r:At} (h:oS tb Z O d t r K):∃O',(∀(Z':Env) (K':A3),K' (upd (eY d Z') d (.u (.one (.map d)))) O'->oS tb Z' O d t r K')/\K (upd (eY d Z) d (.u (.one (.map d)))) O':=by unfold oS at h;split at h;{rename_i ti h1;split at h;{rename_i kt e h2;split at h;{rename_i kk h3;refine⟨_,λZ' K' hk=>?_,h.2⟩;unfold oS;simp only[h1,h2,h3];exact⟨h.1,hk⟩};{exact h.elim}};{exact h.elim}};{exact h.elim}
theorem mapSet_to {t:TypeId} {m k x:V} (h:pU tb Z O t m k x K):∃O',(∀(Z':Env) (K':A3),K' Z' O'->pU tb Z' O t m k x K')/\K Z O':=by unfold pU at h;split at h;{rename_i ti s key u h1 h2 h3;split at h;{rename_i kt e kk es h4 h5;refine⟨_,λZ' K' hk=>?_,h.2.2⟩;unfold pU;simp only[h1,h2,h3,h4,h5];exact⟨h.1,h.2.1,hk⟩};{rename_i kt e kk ks ie sz els h4 h5;unfold rMapN stpN' at h;cases hn:neC u with|some x'=>rw[hn] at h;refine⟨_,λZ' K' hk=>?_,h.2⟩;unfold pU;simp only[h1,h2,h3,h4,h5];unfold rMapN stpN';rw[hn];exact⟨h.1,hk⟩|none=>rw[hn] at h;exact h.elim};{exact h.elim}};{exact h.elim}
theorem han_box {d:Nat}:∀e,some d≠some e->V.wipe e (.u (.one (.box d 0)))=.u (.one (.box d 0)):=λe he=>by simp only[V.wipe,U.wipe,C.wipe];rw[if_neg λh=>he (by rw[h])]
theorem han_own {d:Nat}:∀e,some d≠some e->V.wipe e (.u (.one (.own d)))=.u (.one (.own d)):=λe he=>by simp only[V.wipe,U.wipe,C.wipe];rw[if_neg λh=>he (by rw[h])]
theorem han_map {d:Nat}:∀e,some d≠some e->V.wipe e (.u (.one (.map d)))=.u (.one (.map d)):=λe he=>by simp only[V.wipe,U.wipe,C.wipe];rw[if_neg λh=>he (by rw[h])]
theorem eff_to (he:effOp o.op=true) (h:jr tb Z O o K):∃v O',EffTo tb o Z O v O'/\K (cK (wipeD o.dst Z) o.dst v) O':=by
 unfold jr at h;split at h;{rename_i t d hop hdst;split at h;{rename_i ti hty;obtain⟨O',h1,h2⟩:=alloc_to h;refine⟨.u (.one (.box d 0)),O',⟨λZ' K' _ hk=>?_,by rw[hdst];exact han_box⟩,by rw[hdst];exact h2⟩;rw[hdst] at hk;unfold jr;simp only[hop,hdst,hty];exact h1 _ _ hk};{exact h.elim}};{rename_i t x d hop hdst;obtain⟨O',h1,h2⟩:=newBox_to h;refine⟨.u (.one (.box d 0)),O',⟨λZ' K' hz hk=>?_,by rw[hdst];exact han_box⟩,by rw[hdst];exact h2⟩;rw[hdst] at hk;unfold jr;simp only[hop,hdst];rw[hz x (by simp[hop,Op.operands])];exact h1 _ _ hk};{rename_i t x y hop hdst;obtain⟨O',h1,h2⟩:=aStore_iff h;refine⟨.tup [],O',⟨λZ' K' hz hk=>?_,λ_ _=>rfl⟩,by rw[hdst];exact h2⟩;rw[hdst] at hk;unfold jr;simp only[hop,hdst];rw[hz x (by simp[hop,Op.operands]),hz y (by simp[hop,Op.operands])];exact h1 _ _ hk}
 ·rename_i c hop;obtain⟨callee,args,ats⟩:=c;split at h
  ·rename_i x y t t' d hc ha hts hdst;have hx:x∈o.op.operands:=by rw[hop];simp only at ha;simp[Op.operands,Call.operands];exact .inr (by rw[<- Array.mem_toList_iff,ha];simp)
   have hy:y∈o.op.operands:=by rw[hop];simp only at ha;simp[Op.operands,Call.operands];exact .inr (by rw[<- Array.mem_toList_iff,ha];simp)
   by_cases htt:t=t'
   case neg=>
    rw[if_neg htt] at h;exact h.elim
   rw[if_pos htt] at h;obtain⟨O',h1,h2⟩:=append_to h;refine⟨.u (.one (.own d)),O',⟨λZ' K' hz hk=>?_,by rw[hdst];exact han_own⟩,by rw[hdst];exact h2⟩;rw[hdst] at hk;unfold jr;simp only at hc ha hts;simp only[hop,hdst,hc,ha,hts];rw[if_pos htt,hz x hx,hz y hy];exact h1 _ _ hk
  ·exact h.elim
 ·rename_i t m k x hop hdst;obtain⟨O',h1,h2⟩:=mapSet_to h;refine⟨.tup [],O',⟨λZ' K' hz hk=>?_,λ_ _=>rfl⟩,by rw[hdst];exact h2⟩;rw[hdst] at hk;unfold jr;simp only[hop,hdst];rw[hz m (by simp[hop,Op.operands]),hz k (by simp[hop,Op.operands]),hz x (by simp[hop,Op.operands])];exact h1 _ _ hk
 ·rename_i t x c d hop hdst;obtain⟨O',h1,h2⟩:=makeSlice_to h;refine⟨.u (.one (.own d)),O',⟨λZ' K' hz hk=>?_,by rw[hdst];exact han_own⟩,by rw[hdst];exact h2⟩;rw[hdst] at hk;unfold jr;simp only[hop,hdst];rw[hz x (by simp[hop,Op.operands]),hz c (by simp[hop,Op.operands])];exact h1 _ _ hk
 ·rename_i t r d hop hdst;obtain⟨O',h1,h2⟩:=makeMap_to h;refine⟨.u (.one (.map d)),O',⟨λZ' K' hz hk=>?_,by rw[hdst];exact han_map⟩,by rw[hdst];exact h2⟩;rw[hdst] at hk;have hr:r.map (oev Z')=r.map (oev Z):=by
   cases r with
   |none=>rfl|some r=>simp only[Option.map_some];rw[hz r (by simp[hop,Op.operands])]
  unfold jr;simp only[hop,hdst];rw[hr];exact h1 _ _ hk
 all_goals first|exact h.elim|(exfalso;simp_all[effOp];done)
theorem pre_app {d:Nat} {t:TypeId} {x y:V} (h:nJ tb Z O d t x y K):preD tb (tb.ty t) Z O d x y=none:=by
 unfold nJ at h;split at h
 ·rename_i ti h1;split at h
  ·rename_i e h2;split at h
   ·rename_i te h3;have hp:preV O te.size e x=none:=by
     cases x with
     |tup us=>rfl|u u=>
      cases u with
      |agg cs=>rfl|one c=>
       cases c with
       |sub s z a n=>
        cases a with
        |zero=>(exfalso;revert h;simp only[fstRow,fullV];cases tU O te.size y<;>exact λh=>h)|succ a=>rfl
       |_=>rfl
    rw[h1];simp only[preD,h2,preT,h3,hp]
   ·exact h.elim
  ·exact h.elim
 ·exact h.elim
theorem tM (he:effOp o.op=true) (h:jr tb Z O o K):p7 P cx tb o Z O K:=by
 have h1:ep o.op=none:=by unfold ep;split;{rename_i c hc;rw[hc] at he;simp only[effOp] at he;split;{rename_i x hx;rw[hx] at he;cases he};{rfl}};{rfl}
 have h2:qev tb Z O o.op=none:=by
  cases ho:o.op<;>rw[ho] at he<;>first|rfl|cases he|skip
  rename_i c;simp only[effOp] at he;split at he;{rename_i hc;simp only[qev];split;{rename_i h _ _;rw[hc] at h;cases h};{rename_i h _;rw[hc] at h;cases h};{rfl}};{cases he}
 have h3:preR tb Z O o.op o.dst=none:=by unfold preR;split;{rename_i c hc;split;{rename_i x y t t' d g1 g2 g3 g4;split;{rename_i htt;subst htt;unfold jr at h;obtain⟨callee,args,ats⟩:=c;simp only at g1 g2 g3;simp only[hc,g1,g2,g3,g4,if_pos] at h;exact pre_app h};{rfl}};{rfl}};{rfl}
 unfold p7;rw[h1,h2];unfold aeffP;rw[h3];exact h
end
