/- Functions of Go's strings package, told by the kit: pure calls over lists of bytes. -/
import Derived.Test.YtlifofijgddjkabGreatDoorAmMp
import Derived.Shelf.Strings.Cut
import Derived.Shelf.Strings.Split
namespace Go.AM
open Go.Proofs
variable {P:Program}
def cutS (s sep:List UInt8):Option (List UInt8×List UInt8×Bool):=bif Nat.ble s.length 4000000000 then some (Lib.cut s sep) else none
theorem cut_pure {Z:Go.Shelf.Ren} (L:Lays.n145 P Z) (hg:gany (Z.g 1)=true) {f:FuncId} (hf:Z.f 145=f) (hfn:∃ fn,P.funcs[f]?=some fn/\(fn.name == "runtime.NumGoroutine")=false/\fn.body.isNone=false) {s sep:List UInt8} {r:List UInt8×List UInt8×Bool}
  (h:cutS s sep=some r):PureCall P f [.u (.one (.d (.str (bs s)))),.u (.one (.d (.str (bs sep))))] (.tup [.one (.d (.str (bs r.1))),.one (.d (.str (bs r.2.1))),.one (.d (.bool r.2.2))]):=by
 subst hf
 unfold cutS at h
 cases hc:Nat.ble s.length 4000000000 with
 | false=>rw[hc] at h; cases h
 | true =>
  rw[hc] at h
  cases h
  have hlen:=Nat.le_of_ble_eq_true hc
  refine⟨hfn,fun φ w F hF vals hl hv=>?_⟩
  obtain⟨m,hm⟩:=(hF.gw.any _ hg).2
  match vals,hl with
  | [a,b],_ =>
   have ha:=hv 0 _ _ rfl rfl
   have hb:=hv 1 _ _ rfl rfl
   simp only[vsim,usim,csim,rep] at ha hb
   subst ha hb
   have hs:(bs s).size < 4294967281:=by show s.toArray.size < _; rw[List.size_toArray]; omega
   have hcut:=Any.strings_Cut L (bs s) (bs sep) m w hs hm
   rw[show (bs s).data.toList=s from rfl,show (bs sep).data.toList=sep from rfl] at hcut
   refine hcut.mono fun e w' ⟨he,n,hw⟩=>⟨_,he,?_,?_⟩
   ·subst hw
    exact⟨⟨rfl,rfl,rfl,Nat.le_refl _,fun _ _=>rfl⟩,drn_mono (Nat.le_add_right _ _)⟩
   ·exact⟨_,rfl,_,_,rfl,rfl,_,_,rfl,rfl,_,_,rfl,rfl,rfl⟩
def indexS (s sub:List UInt8):Option Int:=bif Nat.ble s.length 4000000000 then some (Lib.index s sub) else none
theorem index_pure {Z:Go.Shelf.Ren} (L:Lays.n143 P Z) (hg:gany (Z.g 1)=true) {f:FuncId} (hf:Z.f 143=f) (hfn:∃ fn,P.funcs[f]?=some fn/\(fn.name == "runtime.NumGoroutine")=false/\fn.body.isNone=false) {s sub:List UInt8} {r:Int}
  (h:indexS s sub=some r):PureCall P f [.u (.one (.d (.str (bs s)))),.u (.one (.d (.str (bs sub))))] (.u (.one (.d (.int .i64 r)))):=by
 subst hf
 unfold indexS at h
 cases hc:Nat.ble s.length 4000000000 with
 | false=>rw[hc] at h; cases h
 | true =>
  rw[hc] at h
  cases h
  have hlen:=Nat.le_of_ble_eq_true hc
  refine⟨hfn,fun φ w F hF vals hl hv=>?_⟩
  obtain⟨m,hm⟩:=(hF.gw.any _ hg).2
  match vals,hl with
  | [a,b],_ =>
   have ha:=hv 0 _ _ rfl rfl
   have hb:=hv 1 _ _ rfl rfl
   simp only[vsim,usim,csim,rep] at ha hb
   subst ha hb
   have hs:(bs s).size < 4294967281:=by show s.toArray.size < _; rw[List.size_toArray]; omega
   have hix:=Any.strings_Index L (bs s) (bs sub) m w hs hm
   rw[show (bs s).data.toList=s from rfl,show (bs sub).data.toList=sub from rfl] at hix
   refine hix.mono fun e w' ⟨he,hw⟩=>⟨_,he,?_,?_⟩
   ·subst hw
    exact Blw.refl _ _
   ·rfl
def splitS (s sep:List UInt8):Option (List (List UInt8)):=bif Nat.ble s.length 4000000000 && !sep.isEmpty then some (Lib.split s sep) else none
theorem repRows_strs {w:World} {F:Nat->Prop} {b:Nat}:∀ (l:List (List UInt8)) (o:Nat),(∀ i x,l[i]?=some x->w.cell? ⟨b,o+i,none⟩=some (.string (bs x)))->repRows w F 1 (l.map rT) b o
 | [],_,_=>trivial
 | x::l,o,h=>⟨⟨rfl,⟨_,h 0 x rfl,rfl⟩,trivial⟩,repRows_strs l (o+1) fun i y hy=>by
   have:=h (i+1) y hy
   rwa [Nat.add_comm i 1,<- Nat.add_assoc] at this⟩
theorem split_eq (s sep:List UInt8):(Lib.splitB (bs sep) 0 (Lib.countB (bs s) (bs sep)) (bs s)).map (·.data.toList)=Lib.split s sep:=Lib.splitB_data (bs sep) 0 _ (bs s)
theorem split_pure {Z:Go.Shelf.Ren} (L:Lays.n146 P Z) (hi9:(P.info? (Z.t 9)).map (fun i=>(i.zero,i.size,i.bytes))=some (some (.string ByteArray.empty),1,16)) (hg:gany (Z.g 1)=true) {f:FuncId} (hf:Z.f 146=f) (hfn:∃ fn,P.funcs[f]?=some fn/\(fn.name == "runtime.NumGoroutine")=false/\fn.body.isNone=false) {s sep:List UInt8} {r:List (List UInt8)}
  (h:splitS s sep=some r):PureCall P f [.u (.one (.d (.str (bs s)))),.u (.one (.d (.str (bs sep))))] (.u (.one (.d (.sl 1 (r.map rT))))):=by
 subst hf
 unfold splitS at h
 cases hc:Nat.ble s.length 4000000000 && !sep.isEmpty with
 | false=>rw[hc] at h; cases h
 | true =>
  rw[hc] at h
  cases h
  rw[Bool.and_eq_true] at hc
  have hlen:=Nat.le_of_ble_eq_true hc.1
  have h1:1<=(bs sep).size:=by
   show 1<=sep.toArray.size
   rw[List.size_toArray]
   cases sep with
   | nil=>cases hc.2
   | cons=>simp
  refine⟨hfn,fun φ w F hF vals hl hv=>?_⟩
  obtain⟨m,hm⟩:=(hF.gw.any _ hg).2
  match vals,hl with
  | [a,b],_ =>
   have ha:=hv 0 _ _ rfl rfl
   have hb:=hv 1 _ _ rfl rfl
   simp only[vsim,usim,csim,rep] at ha hb
   subst ha hb
   have hsz:(bs s).size=s.length:=by show s.toArray.size=_; rw[List.size_toArray]
   have hs:(bs s).size < 4294967281:=by omega
   have hle:=Lib.countB_le (bs sep) h1 (bs s).size (bs s) (Nat.le_refl _)
   have hcnt:=Lib.splitB_all (bs sep) h1 0 _ (bs s) rfl
   have hll:(Lib.split s sep).length=Lib.countB (bs s) (bs sep)+1:=by rw[<- split_eq,List.length_map,hcnt]
   refine (Any.strings_Split L hi9 (bs s) (bs sep) m w hs hm h1).mono fun e w' ⟨he,hw⟩=>⟨_,he,?_,?_⟩
   ·subst hw
    exact (Blw.refl _ _).alloc (Nat.le_refl _) _
   ·subst hw
    simp only[vsim,usim,csim,rep]
    refine⟨_,_,_,rfl,by rw[List.length_map,hll],Nat.le_refl _,Nat.le_trans (m:=4000000001) (by omega) (by decide),.inr ⟨_,_,rfl,hF.new _ (Nat.le_refl _),by simp,?_⟩⟩
    refine repRows_strs _ _ fun i x hx=>?_
    rw[World.cell?_alloc_at _ _ _ _ rfl,Nat.zero_add,List.getElem?_toArray,List.getElem?_map]
    rw[<- split_eq,List.getElem?_map] at hx
    cases hy:(Lib.splitB (bs sep) 0 (Lib.countB (bs s) (bs sep)) (bs s))[i]? with
    | none=>rw[hy] at hx; cases hx
    | some y=>rw[hy] at hx; cases hx; rfl
end Go.AM
