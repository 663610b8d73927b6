/- Lemmas for the law. -/
import Derived.Test.YtpeabgakdpojlaaGreatDoorAmBs
import Derived.Test.YtpeabgakdpojlaaGreatDoorAmNm
namespace Go.AM
open Go.RowKit
theorem rowAt_slice {w:World} {e:TypeId} {sz:Nat} {v:Value} {n:Nat} {xs:A9} (h:lQ w e sz v n xs):v.oneCell'=true/\hdv v=v/\∀b,hbl v b↔gD v=some b:=by rcases h with⟨_,_,a,rfl⟩|⟨b,cap,cur,h0,rfl,_⟩;{refine⟨rfl,rfl,λb=>?_⟩;rw[hbl_slice0];cases a<;>simp[gD]};{refine⟨rfl,rfl,λb'=>?_⟩;simp[gD,eq_comm]}
section
variable {P:Program} {cx:Cx} {tb:Tb} {Z:Env} {O:Sto} {K:A3} {Q:Aa} {y:Code}
def nap2 (te:Option TI) (e d d':Nat) (c r:Nat) (ob:Ab) (Z:Env) (O:Sto) (K:A3) (_:Lk (Z,O,K)):Prop:=match te,ob with|some te,some (.nest (.row e') ie sz els)=>(e'=e/\te.size=1/\0<te.bytes/\(els.length+1)*te.bytes<=140737488355328) /\ K (upd (eY d' (upd Z d (.u (.one .top)))) d' (.u (.one (.own d')))) (upd (cM d' (drop (some c) O)) d' (some (.nest (.row e) ie sz ((els++[NE.own r]).map (NE.wipe d')))))|_,_=>False
def nap1 (tb:Tb) (de:Option TypeDesc) (d d':Nat) (x z:V) (Z:Env) (O:Sto) (K:A3) (j:Lk (Z,O,K)):Prop:=match de,x,z with|some (.slice e),.u (.one (.own c)),.u (.one (.own r))=>nap2 (tb.ty e) e d d' c r (O c) Z O K j|_,_,_=>False
def napO (tb:Tb) (l:A6) (Z:Env) (O:Sto) (K:A3) (j:Lk (Z,O,K)):Prop:=match l with|⟨some d,.buildSlice t 1 ⟨[(0,z)]⟩,_,_,_,none⟩::⟨some d',.call ⟨.builtin .append,⟨[x,.tmp d1]⟩,⟨[t1,t2]⟩⟩,_,_,_,none⟩::_=>(d1=d/\t1=t/\t2=t)/\nap1 tb ((tb.ty t).map (·.desc)) d d' (oev (upd Z d (.u (.one .top))) x) (oev Z z) Z O K j|_=>False
theorem napO_cons {d d' d1 t t1 t2:Nat} {x z:Operand} {ty ty':TypeId} {pos pos':String} {af af':Array Edge} {l:A6} {j} :
  napO tb ({ dst:=some d,op:=.buildSlice t 1 #[(0,z)],type:=ty,pos:=pos,after:=af,guard:=none }::{ dst:=some d',op:=.call { callee:=.builtin .append,args:=#[x,.tmp d1],argTypes:=#[t1,t2] },type:=ty',pos:=pos',after:=af',guard:=none }::l) Z O K j = ((d1=d/\t1=t/\t2=t)/\nap1 tb ((tb.ty t).map (·.desc)) d d' (oev (upd Z d (.u (.one .top))) x) (oev Z z) Z O K j):=rfl
theorem nap1_own {e d d' c r:Nat} {j}:nap1 tb (some (.slice e)) d d' (.u (.one (.own c))) (.u (.one (.own r))) Z O K j=nap2 (tb.ty e) e d d' c r (O c) Z O K j:=rfl
theorem nap2_nest {te:TI} {e d d' c r e':Nat} {ie sz:Nat} {els:List NE} {j}:nap2 (some te) e d d' c r (some (.nest (.row e') ie sz els)) Z O K j=((e'=e/\te.size=1/\0<te.bytes/\(els.length+1)*te.bytes<=140737488355328) /\
   K (upd (eY d' (upd Z d (.u (.one .top)))) d' (.u (.one (.own d')))) (upd (cM d' (drop (some c) O)) d' (some (.nest (.row e) ie sz ((els++[NE.own r]).map (NE.wipe d')))))):=rfl
theorem fill_one {z:Array Value} {v:Value} (hz:z.size=1) (hv:v.oneCell'=true):Instr.fill (λi=>some (i*1,1)) z [(0,v)]=some #[v]:=by obtain⟨l⟩:=z;obtain⟨x,rfl⟩:∃x,l=[x]:=List.length_eq_one_iff.1 hz;have hc:=sk hv;simp[Instr.fill,hc]
theorem nap_sound (ht:TbOk P tb) {o1 o2:Oper} {l:A6} {j} (hd1:∀d,o1.dst=some d->d<cx.n/\d<inBase) (hd2:∀d,o2.dst=some d->d<cx.n/\d<inBase) (h:napO tb (o1::o2::l) Z O K j):o1.guard=none/\o2.guard=none /\ ∀(E:A7) (a:Act) (w:World),Sim cx E Z O a w->∃v1 w1,(execOp a.eval o1).run P w=.ok (.value v1) w1/\∃ρ1,Sim cx E ρ1 O (a.put o1.dst v1) w1/\∃v2 w2,(execOp (a.put o1.dst v1).eval o2).run P w1=.ok (.value v2) w2 /\ ∃E' Z' O',Sim cx E' Z' O' ((a.put o1.dst v1).put o2.dst v2) w2/\K Z' O':=by
 unfold napO at h;split at h
 ·rename_i d t z ty pos af d' x d1 t1 t2 ty' pos' af' l' he;simp only[List.cons.injEq] at he;obtain⟨rfl,rfl,rfl⟩:=he;obtain⟨⟨rfl,rfl,rfl⟩,h⟩:=h;refine⟨rfl,rfl,λE a w hs=>?_⟩;unfold nap1 at h;split at h
  ·rename_i e c r hde hxv hzv;obtain⟨ti,hty,hde'⟩:=Option.map_eq_some_iff.1 hde;have T:=ht.ty _ ti hty;unfold nap2 at h;split at h
   ·rename_i te e' ie sz els hte hob;obtain⟨⟨rfl,hsz,hby,hbd⟩,hK⟩:=h;have TE:=ht.ty _ te hte;obtain⟨hdn,hdi⟩:=hd1 d1 rfl;obtain⟨hdn',hdi'⟩:=hd2 d' rfl;have hz:=dW hs.core.gw hs.slots z;rw[hzv] at hz;obtain⟨hzu,hz1⟩:=hz;have hrun1:(Instr.buildSlice t2 1 #[(0,a.eval z)]).run P w=.ok (.slice (some ⟨w.heap.size,0,none⟩) 1 1) (w.alloc (.cells #[a.eval z] e')) :=
     run_buildSlice (n:=1) (vals:=[(0,a.eval z)]) (T.und.trans (by rw[hde'])) TE (by rw[hsz];omega) (λh=>by omega) (λ_=>by rw[hsz];exact fill_one (by simp) hz1)
    have hb:Blw w.heap.size w (w.alloc (.cells #[a.eval z] e')):=(Blw.refl _ _).alloc (Nat.le_refl _) _;have hs1:Sim cx E (upd Z d1 (.u (.one .top))) O (a.put (some d1) (.slice (some ⟨w.heap.size,0,none⟩) 1 1)) (w.alloc (.cells #[a.eval z] e')) :=(hs.below hb).put (d:=some d1) (λy hy=>by grind) (v:=.u (.one .top)) (by simp[bI,ct,bG]);refine⟨.slice (some ⟨w.heap.size,0,none⟩) 1 1,w.alloc (.cells #[a.eval z] e'),by simp only[execOp,List.map_toArray,List.map_cons,List.map_nil,hrun1,Sem.run_bind,Sem.run_pure,Result.andThen_ok],_,hs1,?_⟩;have hd1v:(a.put (some d1) (.slice (some ⟨w.heap.size,0,none⟩) 1 1)).eval (.tmp d1)=.slice (some ⟨w.heap.size,0,none⟩) 1 1:=by have hs2:Sim cx E (upd Z d1 (.u (.one (.opq (.slice (some ⟨w.heap.size,0,none⟩) 1 1))))) O (a.put (some d1) (.slice (some ⟨w.heap.size,0,none⟩) 1 1)) (w.alloc (.cells #[a.eval z] e')) :=(hs.below hb).put (d:=some d1) (λy hy=>by grind) (v:=.u (.one (.opq _))) ⟨rfl,rfl⟩;have h3:=dW hs2.core.gw hs2.slots (.tmp d1);simp_all[bI,ct,bG]
    generalize hw1:w.alloc (.cells #[a.eval z] e')=w1 at hs1;generalize a.put (some d1) (.slice (some ⟨w.heap.size,0,none⟩) 1 1)=a1 at hs1 hd1v;have hcell:w1.cell? ⟨w.heap.size,0,none⟩=some (a.eval z):=by rw[<- hw1];simp
    obtain⟨out,ivs,cs,hp,hnd,hsp,hn⟩:=hs1.core.objs c _ hob;have hx:=dW hs1.core.gw hs1.slots x;rw[hxv] at hx;obtain⟨hxu,_⟩:=hx;rw[hp,fB] at hxu;have hrow:lQ w1 e' te.size (a1.eval x) els.length cs:=by rw[hxu,hsz];rcases hsp with⟨h0,h1,h2⟩|⟨b,cap,cur,h0,h1,h2,h3,h4,h5,h6⟩;{exact .inl ⟨h0,h1,h2⟩};{exact .inr ⟨b,cap,cur,h0,h1,h2,h3,h4,by omega,by simp_all⟩}
    have hcl:=tT hn;obtain⟨v',w2,hrun,hos,htp,hout,hsize,hblk',hnew,hrow'⟩:=run_app (P:=P) (ty:=ty') (c:=1) (A:=some ⟨w.heap.size,0,none⟩) (m:=1) (ns:=[a.eval z]) (T.und.trans (by rw[hde'])) TE (by omega) hby hrow (by rw[hsz];omega) (by rw[hsz];rfl) (λ_=>⟨_,rfl,λj v hj=>by
      cases j with
      |zero=>simp only[List.getElem?_cons_zero,Option.some.injEq] at hj;subst hj;exact hcell|succ j=>simp at hj⟩) (λv hv=>by simp_all) hbd
    obtain⟨hv1,hv2,hv3⟩:=rowAt_slice hrow';obtain⟨_,_,hx3⟩:=rowAt_slice hrow;rw[hxu] at hx3 hblk' hnew;have hnd':=hnd;rw[hp,gl] at hnd';have hbc:∀b,hbl out b->hbl (E c) b:=λb hb=>by simp_all[lE]
    have hbi:∀iv∈ivs,∀b,gD iv=some b->hbl (E c) b/\¬ hbl out b:=λiv hi b hb=>⟨by grind[lE],λhb'=>by simp_all⟩
    have hfm:((v'::(ivs++[undef])).filterMap gD).Nodup:=by
     rw[List.filterMap_cons,List.filterMap_append];have hu:[undef].filterMap gD=[]:=rfl;rw[hu,List.append_nil];have hni:(ivs.filterMap gD).Nodup:=by grind
     cases hbv:gD v' with
     |none=>exact hni|some b=>refine List.nodup_cons.2 ⟨λhm=>?_,hni⟩;obtain⟨iv,hi,hb⟩:=List.mem_filterMap.1 hm;obtain⟨h1,h2⟩:=hbi iv hi b hb;rcases (hnew b ((hv3 b).2 hbv)).1 with h3|h3;{have:=(hs1.core.own c _ b hob h1).2;omega};{exact h2 h3}
    obtain⟨h1,h2,h3⟩:=hs1.core.replace (so:=some c) (d:=d') (hv:=.tuple (v'::(ivs++[undef])).toArray) (ob:=.nest (.row e') ie sz ((els++[NE.own r]).map (NE.wipe d'))) (w':=w2) hdi' (λs o h1 h2 kk es e=>by simp_all) hos htp hout (tk _ _ _ _ hrun) hsize (λb hl hne=>hblk' b hl λhb=>hne c _ rfl hob (hbc b hb)) (λb hb=>by
      rcases lE.1 hb with h1|⟨iv,hi,h1⟩;{grind}
      ·rcases List.mem_append.1 hi with hi|hi;{obtain⟨h2,_⟩:=hbi iv hi b h1;exact⟨.inr ⟨c,_,rfl,hob,h2⟩,Nat.lt_of_lt_of_le (hs1.core.own c _ b hob h2).2 hsize⟩}
       ·simp only[List.mem_cons,List.not_mem_nil,or_false] at hi;subst hi;cases h1) (λ_ _ _ h=>by cases h)
     (λhkp=>by
      refine⟨v',ivs++[undef],cs++[a.eval z],upd_same _ _ _,by rw[upd_same,gl];exact hfm,?_,?_⟩;{rw[List.length_map,List.length_append];rcases hrow' with⟨h0,_⟩|⟨b,cap,cur,h0,h1,h2,h3,h4,h5,h6⟩;{omega};{exact .inr ⟨b,cap,cur,h0,h1,h2,h3,h4,by grind,by simp_all⟩}}
      ·refine qn (E:=E) (λt ht=>bz _ _ ht) (tF (x:=NE.own r) (show nsim E w2 _ ie sz (a.eval z) undef (.own r)from⟨hzu,hz1,rfl⟩) (k5 hkp (λiv hi b hb=>?_) hn));obtain⟨h1,h2⟩:=hbi iv hi b hb;exact hblk' b (hs1.core.own c _ b hob h1).2 h2)
    refine⟨v',w2,?_,upd E d' (.tuple (v'::(ivs++[undef])).toArray),_,_,⟨h1,?_,hs1.defers,?_⟩,hK⟩;{unfold execOp;simp only[resolve,invoke,builtin,Sem.run_bind,Sem.run_pure,Result.andThen_ok,List.map_toArray,List.map_cons,List.map_nil,hd1v,hrun]};{exact qh (λt=>h3 _ _ (hs1.slots t)) (v:=.u (.one (.own d'))) (by simp only[bI,ct,bG];rw[upd_same,fB];grind) (Nat.lt_of_lt_of_le hdn' hs1.room)};{simpa [Act.put] using hs1.room}
   ·exact h.elim
  ·exact h.elim
 ·exact h.elim
theorem sw_regN (ht:TbOk P tb) (k:Nat) {id:Nat} {l:A6} (hd:kl cx.n l=true) (h:lP P cx tb l (l.take k) Z O (λZ O=>napO tb (l.drop k) Z O (λZ O=>lP P cx tb l (l.drop (k+2)) Z O (Q .normal) .mk) .mk) .mk):Swp P cx (.region id l.toArray false) Z O Q:=λE a w hs=>
 wp_region (by
  have hdk:∀Z O,napO tb (l.drop k) Z O (λZ O=>lP P cx tb l (l.drop (k+2)) Z O (Q .normal) .mk) .mk->∃o1 o2,l[k]?=some o1/\l[k+1]?=some o2/\l.drop k=o1::o2::l.drop (k+2):=λZ O h=>by
   cases hl:l.drop k with
   |nil=>rw[hl] at h;exact h.elim|cons o r=>
    cases r with
    |nil=>simp_all[napO]|cons o2 r=>
     have h1:l[k]?=some o:=by have:=congrArg (·[0]?) hl;simpa using this
     have h3:l[k+1]?=some o2:=by have:=congrArg (·[1]?) hl;simpa using this
     refine⟨o,o2,h1,h3,?_⟩;have h2:l.drop (k+2)=r:=by have:=congrArg (List.drop 2) hl;simpa using this
     rw[h2]
  have key:=aops_pre (ops:=l.toArray) ht hd (Q:=QL cx Q) (rest:=List.range' k (l.length-k)) (K:=λZ O=>napO tb (l.drop k) Z O (λZ O=>lP P cx tb l (l.drop (k+2)) Z O (Q .normal) .mk) .mk) (λE Z O a w hs hb=>by obtain⟨o1,o2,ho1,ho2,hdr⟩:=hdk Z O hb;have hkl:k+1<l.length:=(List.getElem?_eq_some_iff.1 ho2).1;rw[hdr] at hb;obtain⟨hg1,hg2,hstep⟩:=nap_sound ht (nu hd ho1) (nu hd ho2) hb;obtain⟨v1,w1,hr1,ρ1,hs1,v2,w2,hr2,E',Z',O',hs2,hk⟩:=hstep E a w hs;rw[show l.length-k=(l.length-(k+2))+1+1 from by omega,List.range'_succ,List.range'_succ];simp only[wpOps,List.getElem?_toArray,ho1];rw[if_pos (mq hs.slots (by unfold gst;rw[hg1]):Region.wanted o1 (yielded l.toArray a.tmps)=true)];refine .inl ?_;unfold Oper.wp;rw[hr1];simp only[Oper.upon,ho2];rw[if_pos (mq hs1.slots (by unfold gst;rw[hg2]):Region.wanted o2 (yielded l.toArray (a.put o1.dst v1).tmps)=true)];refine .inl ?_;rw[hr2];have:=aops_sound (ops:=l.toArray) ht hd (Q:=QL cx Q) (λE Z O a w hs hk=>⟨(λ_ h=>by cases h),(λh=>by cases h),E,Z,O,hs,hk⟩) (l.drop (k+2)) (k+1+1) Z' O' E' _ w2 (λj=>by simp) hk hs2;simpa using this) (l.take k) 0 Z O E a w (λj o ho=>by grind) h hs;rw[List.range_eq_range'];by_cases hkl:k<=l.length;{rw[List.length_take,Nat.min_eq_left hkl] at key;rw[show l.toArray.size=k+(l.length-k)from by simp;omega,<- List.range'_append_1];simpa using key};grind)
theorem sw_regNs (ht:TbOk P tb) (k:Nat) {id:Nat} {l:A6} (hd:kl cx.n l=true) (h:lP P cx tb l (l.take k) Z O (λZ O=>napO tb (l.drop k) Z O (λZ O=>lP P cx tb l (l.drop (k+2)) Z O (λZ O=>Swp P cx y Z O Q) .mk) .mk) .mk):Swp P cx (.seq (.region id l.toArray false) y) Z O Q:=bo (sw_regN ht k hd h)
end
attribute [simp] napO_cons nap1_own nap2_nest
theorem idx_snoc {I:Type} (l:List I) (x:I):idx (l++[x]) (br l)=some x:=by unfold idx br;simp
theorem nels_snoc {I:Type} (f:I->Ak) (l:List (List I)) (r:List I) (t:Nat):ft f l++[NE.own t]=(ft f (l++[r])).set (br l).toNat (.own t):=by unfold ft br;simp
