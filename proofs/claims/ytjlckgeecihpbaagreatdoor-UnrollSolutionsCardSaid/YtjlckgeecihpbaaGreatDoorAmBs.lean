/- A slice that the program writes out, as a row of one's own. -/
import Derived.Test.YtjlckgeecihpbaaGreatDoorAmR
namespace Go.AM
open Go.RowKit
section
variable {P:Program} {φ:Nat->Value} {F:Nat->Prop} {w:World} {tb:Tb}
theorem qbuildSlice_new (ht:TbOk P tb) {t e:TypeId} {n sz:Nat} {parts:List (Nat×V)} {r:List L} {rs:List (List L)} {vals:List (Nat×Value)} {ti:TI} (hty:tb.ty t=some ti) (hd:ti.desc=.slice e)
  (h:iD tb t n parts=some (.u (.one (.d (.sl sz (r::rs)))))) (hl:parts.length=vals.length) (hs:∀ (j:Nat) (p:Nat×V) (q:Nat×Value),parts[j]?=some p->vals[j]?=some q->p.1=q.1/\bn φ w F p.2 q.2) :
  ∃ arr':Array Value,(Instr.buildSlice t n vals.toArray).run P w=.ok (.slice (some ⟨w.heap.size,0,none⟩) n n) (w.alloc (.cells arr' e))/\bg φ w F ((r::rs).flatten.map C.d) arr'.toList/\arr'.size=n*sz/\(r::rs).length=n /\
   (∀ x∈r::rs,x.length=sz)/\n<=2 ^ 24:=by
 unfold iD at h
 have T:=ht.ty t ti hty
 simp only[hty,hd] at h
 split at h
 ·rename_i te hte
  have TE:=ht.ty e te hte
  split at h
  ·cases h
  ·split at h
   ·cases h
   ·rename_i hsz
    simp only[not_or,Nat.not_lt] at hsz
    split at h
    ·rename_i zs hzs
     split at h
     ·rename_i zr hzr
      cases hf:nX te.size (List.replicate n zr) parts with
      | none=>grind
      | some rs' =>
       rw[hf] at h
       simp only[Option.map_some,Option.some.injEq,V.u.injEq,U.one.injEq,C.d.injEq,L.sl.injEq] at h
       obtain⟨rfl,rfl⟩:=h
       have hzc:=eX (φ:=φ) (w:=w) (F:=F) hzs (TE.zero φ w F)
       rw[lX hzr] at hzc
       have hzl:=bY hzc
       simp only[List.length_map,Array.length_toList] at hzl
       rw[TE.zsize] at hzl
       obtain⟨arr',h1,h2,h3,h4⟩:=nZ parts vals (List.replicate n zr) (r::rs) _ (fun r hr=>by simp_all) hl hs (zero_cells hzc n) hf
       rw[List.length_replicate] at h4
       have hsize:arr'.size=n*te.size:=by
        grind [bY,List.length_map,Array.length_toList,dX]
       have hn:n≠0:=by
        grind
       have hne:n*te.size≠0:=Nat.mul_ne_zero hn hsz.1
       have hnm:n<=n*te.size:=Nat.le_mul_of_pos_right n (by omega)
       exact⟨arr',run_buildSlice (T.und.trans (by rw[hd])) TE hsz.2 (fun h=>absurd h hne) (fun _=>by rw[<- h1,TE.zsize]),h2,hsize,h4,h3,by omega⟩
     ·cases h
    ·cases h
 ·cases h
end
section
variable {P:Program} {cx:Cx} {tb:Tb} {Z:Env} {O:Sto} {K:Env->Sto->Prop} {o:Oper} {Q:Exit->Env->Sto->Prop} {y:Code}
def bsl1 (v:Option V) (de:Option TypeDesc) (d:Nat) (Z:Env) (O:Sto) (K:Env->Sto->Prop) (_:Lk (Z,O,K)):Prop:=match v,de with
 | some (.u (.one (.d (.sl sz (r::rs))))),some (.slice e)=>K (upd (dp d Z) d (.u (.one (.own d)))) (upd (cj d O) d (some (.row sz e (r::rs))))
 | _,_=>False
def bslO (tb:Tb) (l:List Oper) (Z:Env) (O:Sto) (K:Env->Sto->Prop) (_:Lk (Z,O,K)):Prop:=match l with
 | ⟨some d,.buildSlice t n ps,_,_,_,none⟩::_=>bsl1 (qev tb Z O (.buildSlice t n ps)) ((tb.ty t).map (·.desc)) d Z O K .mk
 | _=>False
theorem bslO_cons {d t n:Nat} {ps:Array (Nat×Operand)} {ty:TypeId} {pos:String} {af:Array Edge} {l:List Oper} {j} :
  bslO tb ({ dst:=some d,op:=.buildSlice t n ps,type:=ty,pos:=pos,after:=af,guard:=none }::l) Z O K j=bsl1 (qev tb Z O (.buildSlice t n ps)) ((tb.ty t).map (·.desc)) d Z O K .mk:=rfl
theorem bsl1_some {sz d:Nat} {r:List L} {rs:List (List L)} {e:TypeId} {j} :
  bsl1 (some (.u (.one (.d (.sl sz (r::rs)))))) (some (.slice e)) d Z O K j=K (upd (dp d Z) d (.u (.one (.own d)))) (upd (cj d O) d (some (.row sz e (r::rs)))):=by rfl
theorem bslO_sound (ht:TbOk P tb) {l:List Oper} {j} (hd:∀ d,o.dst=some d->d < cx.n/\d < inBase) (h:bslO tb (o::l) Z O K j):o.guard=none/\Step P cx o Z O K:=by
 unfold bslO at h
 split at h
 ·rename_i d t n ps ty pos af tl he
  cases he
  refine⟨rfl,?_⟩
  unfold bsl1 at h
  split at h
  ·rename_i sz r rs e hq hde
   obtain⟨hdn,hdi⟩:=hd d rfl
   obtain⟨ti,hty,hde'⟩:=Option.map_eq_some_iff.1 hde
   intro φ a w hs next Q hn
   have hl':(ps.toList.map fun p=>(p.1,oev Z p.2)).length=(ps.toList.map fun p=>(p.1,a.eval p.2)).length:=by simp
   obtain⟨arr',hrun,hcs,hsize,hlen,hrows,hbig⟩:=qbuildSlice_new (φ:=φ) (w:=w) (F:=cx.fr φ O) ht hty hde' (show iD tb t n (ps.toList.map fun p=>(p.1,oev Z p.2))=_ from hq) (vals:=ps.toList.map fun p=>(p.1,a.eval p.2)) hl' (parts_sim fun x _=>dd hs.core.gw hs.slots x)
   have e0:(ps.toList.map fun p=>(p.1,a.eval p.2)).toArray=ps.map fun p=>(p.1,a.eval p.2):=by grind
   rw[e0] at hrun
   have hn0:0 < n:=by grind
   have hb:Blw w.heap.size w (w.alloc (.cells arr' e)):=(Blw.refl _ _).alloc (Nat.le_refl _) _
   have key:=hs.core.replace (so:=none) (d:=d) (hv:=.slice (some ⟨w.heap.size,0,none⟩) n n) (ob:=.row sz e (r::rs)) (w':=w.alloc (.cells arr' e)) hdi (fun _ _ h=>by cases h) hb.os hb.tape hb.output hb.drawn hb.size
    (fun b hl _=>hb.block b hl) (fun b hbk=>by
     simp_all) (fun _ _ _ h=>by cases h)
    (fun hk=>by
     refine⟨hrows,.inr ⟨w.heap.size,n,arr',hn0,by simp_all,by omega,by have:=maxLen_big; omega,heap_alloc_new w _,hsize,?_⟩⟩
     rw[hlen,List.take_of_length_le (by simp_all)]
     exact gj (cD hk _ _ hcs))
   rw[jd] at key
   refine Step.of_run (u:=.slice (some ⟨w.heap.size,0,none⟩) n n) (w':=w.alloc (.cells arr' e)) ?_ (Sim.new hs hdn key rfl (by simp only[bm]; simp)) h hn
   simp only[execOp,hrun,Sem.run_bind,Sem.run_pure,Result.andThen_ok]
  ·exact h.elim
 ·exact h.elim
theorem aops_pre (ht:TbOk P tb) {ops:Array Oper} (hd:io cx.n ops.toList=true) {Q:Exit->Act->World->Prop} {rest:List Nat} (hQ:∀ φ Z O a w,Sim cx φ Z O a w->K Z O->wpOps P ops Q rest a w) :
  ∀ (l:List Oper) (k:Nat) (Z:Env) (O:Sto) (φ:Nat->Value) (a:Act) (w:World),(∀ (j:Nat) (o:Oper),l[j]?=some o->ops[k+j]?=some o)->aops P cx tb ops.toList l Z O K->Sim cx φ Z O a w->wpOps P ops Q (List.range' k l.length++rest) a w
 | [],k,Z,O,φ,a,w,_,h,hs=>by simp only[List.length_nil,List.range'_zero,List.nil_append]; exact hQ φ Z O a w hs h
 | o::l,k,Z,O,φ,a,w,hl,h,hs=>by
  have h0:ops[k]?=some o:=by simpa using hl 0 o rfl
  have h0':ops.toList[k]?=some o:=by simpa using h0
  have hdo:=m8 hd h0'
  simp only[List.length_cons,List.range'_succ,List.cons_append,wpOps,h0]
  simp only[aops] at h
  have ih:=fun Z O φ a w=>aops_pre ht hd hQ l (k+1) Z O φ a w (fun j o ho=>by have:=hl (j+1) o (by simpa using ho); grind)
  rcases mM hs.slots h with ⟨hw,h⟩ | ⟨hw,h⟩
  ·rw[if_pos hw]
   exact .inl (mo ht hdo h φ a w hs _ _ fun φ' Z' O' a' w' hs' hk=>ih Z' O' φ' a' w' hk hs')
  ·rw[if_neg (by simp[hw])]
   exact ih _ _ φ _ _ h (hs.put (fun x hx=>(hdo x hx).1) lZ)
theorem sw_regB (ht:TbOk P tb) (k:Nat) {id:Nat} {l:List Oper} (hd:io cx.n l=true)
  (h:jT P cx tb l (l.take k) Z O (fun Z O=>bslO tb (l.drop k) Z O (fun Z O=>jT P cx tb l (l.drop (k+1)) Z O (Q .normal) .mk) .mk) .mk):Swp P cx (.region id l.toArray false) Z O Q:=fun φ a w hs =>
 wp_region (by
  have hdk:∀ Z O,bslO tb (l.drop k) Z O (fun Z O=>jT P cx tb l (l.drop (k+1)) Z O (Q .normal) .mk) .mk->∃ o,l[k]?=some o/\l.drop k=o::l.drop (k+1):=fun Z O h=>by
   cases hl:l.drop k with
   | nil=>rw[hl] at h; exact h.elim
   | cons o r =>
    have h1:l[k]?=some o:=by have:=congrArg (·[0]?) hl; simpa using this
    refine⟨o,h1,?_⟩
    have h2:l.drop (k+1)=r:=by have:=congrArg (List.drop 1) hl; simpa using this
    rw[h2]
  have key:=aops_pre (ops:=l.toArray) ht hd (Q:=QL cx Q) (rest:=List.range' k (l.length - k)) (K:=fun Z O=>bslO tb (l.drop k) Z O (fun Z O=>jT P cx tb l (l.drop (k+1)) Z O (Q .normal) .mk) .mk) (fun φ Z O a w hs hb=>by
   obtain⟨o,ho,hdr⟩:=hdk Z O hb
   have hkl:k < l.length:=(List.getElem?_eq_some_iff.1 ho).1
   rw[hdr] at hb
   have hdo:=m8 hd ho
   obtain⟨hg,hstep⟩:=bslO_sound ht hdo hb
   rw[show l.length - k=(l.length - (k+1))+1 from by omega,List.range'_succ]
   simp only[wpOps,List.getElem?_toArray,ho]
   rw[if_pos (kR hs.slots (by unfold gst; rw[hg]):Region.wanted o (yielded l.toArray a.tmps)=true)]
   refine .inl (hstep φ a w hs _ _ fun φ' Z' O' a' w' hs' hk=>?_)
   have:=aops_sound (ops:=l.toArray) ht hd (Q:=QL cx Q) (fun φ Z O a w hs hk=>⟨(fun _ h=>by cases h),(fun h=>by cases h),φ,Z,O,hs,hk⟩) (l.drop (k+1)) (k+1) Z' O' φ' a' w' (fun j=>by simp) hk hs'
   simpa using this) (l.take k) 0 Z O φ a w (fun j o ho=>by
    grind) h hs
  rw[List.range_eq_range']
  by_cases hkl:k<=l.length
  ·rw[List.length_take,Nat.min_eq_left hkl] at key
   rw[show l.toArray.size=k+(l.length - k) from by simp; omega,<- List.range'_append_1]
   simpa using key
  grind)
theorem sw_regBs (ht:TbOk P tb) (k:Nat) {id:Nat} {l:List Oper} (hd:io cx.n l=true)
  (h:jT P cx tb l (l.take k) Z O (fun Z O=>bslO tb (l.drop k) Z O (fun Z O=>jT P cx tb l (l.drop (k+1)) Z O (fun Z O=>Swp P cx y Z O Q) .mk) .mk) .mk):Swp P cx (.seq (.region id l.toArray false) y) Z O Q:=aZ (sw_regB ht k hd h)
end
attribute [simp] bslO_cons bsl1_some
end Go.AM
