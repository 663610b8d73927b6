/- strconv.Atoi at every string, told by the kit: a pure call that answers a number and an error, nil or not. -/
import Derived.Test.YtlifofijgddjkabGreatDoorAmSt
import Derived.Shelf.Strconv.AtoiAll
import Derived.Lib.LaidU8
namespace Go.AM
open Go.Proofs Go.RowKit
variable {P:Program}
def atoiA (s:List UInt8):Option (Int×Bool):=bif Nat.ble s.length 4000000000 then some (match Lib.atoiAll s with | .ok v=>(v,false) | .range=>(Lib.atoiSat s,true) | _=>(0,true)) else none
theorem atoiA_pure {Z:Go.Shelf.Ren} (L:LaysC.n172 P Z) (h15:gerr (Z.g 15)=true) (h16:gerr (Z.g 16)=true) {f:FuncId} (hf:Z.f 172=f) (hfn:∃ fn,P.funcs[f]?=some fn/\(fn.name == "runtime.NumGoroutine")=false/\fn.body.isNone=false) {s:List UInt8} {r:Int×Bool}
  (h:atoiA s=some r):PureCall P f [.u (.one (.d (.str (bs s))))] (.tup [.one (.d (.int .i64 r.1)),.one (.d (.er r.2))]):=by
 subst hf
 unfold atoiA at h
 cases hc:Nat.ble s.length 4000000000 with
 | false=>rw[hc] at h; cases h
 | true =>
  rw[hc] at h
  have h1:=Nat.le_of_ble_eq_true hc
  refine⟨hfn,fun φ w F hF vals hl hv=>?_⟩
  match vals,hl with
  | [a],_ =>
   have ha:=hv 0 _ _ rfl rfl
   simp only[vsim,usim,csim,rep] at ha
   subst ha
   have hss:(bs s).size=s.length:=List.size_toArray
   have hb (w':World) (hw:Below w.heap.size w w'):Blw w.heap.size w w':=⟨hw,(Nat.le_refl _:drn w<=drn w')⟩
   cases he:Lib.atoiAll s with
   | ok v =>
    rw[he] at h
    cases h
    refine (Any.strconv_Atoi_ok L (bs s) (by omega) v he w).mono fun e w' ⟨he,hw⟩=>⟨_,he,?_,_,rfl,_,_,rfl,rfl,_,_,rfl,rfl,rfl⟩
    rcases hw with rfl | ⟨t,rfl⟩
    ·exact Blw.refl _ _
    ·exact hb _ (Lib.bytesWorld_below _ _ _)
   | range =>
    rw[he] at h
    cases h
    obtain⟨_,v,hv,hi⟩:=hF.gw.err _ h16
    exact (Any.strconv_Atoi_range L (bs s) (by omega) he v w hv hi).mono fun e w' ⟨N,he,_,_,hw⟩=>⟨_,he,hb _ hw,_,rfl,_,_,rfl,rfl,_,_,rfl,⟨_,_,rfl⟩,rfl⟩
   | _ =>
    rw[he] at h
    cases h
    obtain⟨_,v,hv,hi⟩:=hF.gw.err _ h15
    exact (Any.strconv_Atoi_syntax L (bs s) (by omega) he v w hv hi).mono fun e w' ⟨N,he,_,_,hw⟩=>⟨_,he,hb _ hw,_,rfl,_,_,rfl,rfl,_,_,rfl,⟨_,_,rfl⟩,rfl⟩
theorem laid_iface {w:World} {n:String} {d:DataW Unit} {g t:Nat} {ms:Array (String×TypeId)} (h:Lib.VarReads P w n d) (hg:P.globalNamed n=some g) (hty:(P.globals[g]?).map (·.type)=some t)
  (ht:P.underlying t=some (.interface ms)):∃ v,w.cell? ⟨g,0,none⟩=some v/\(v=.nilIface \/ ∃ te pe,v=.iface te pe):=by
 obtain⟨g',t',cs,fuel,p,hg',hty',hvar,hd⟩:=h
 obtain rfl:=Option.some.inj (hg.symm.trans hg')
 obtain rfl:=Option.some.inj (hty.symm.trans hty')
 have hcs:∃ v,cs.toList=[v]/\(v=.nilIface \/ ∃ te pe,v=.iface te pe):=by
  cases fuel with
  | zero=>simp[DataW.trod] at hd
  | succ m =>
   unfold DataW.trod at hd
   rw[ht] at hd
   split at hd<;>simp_all
 obtain⟨v,hv,hi⟩:=hcs
 refine⟨v,?_,hi⟩
 simp only[World.var?,hg,Option.bind_some] at hvar
 split at hvar
 ·rename_i c t fr hb
  cases hvar
  have:cs=#[v]:=by rw[<- Array.toArray_toList (xs:=cs),hv]
  subst this
  simp[World.cell?,hb]
 ·cases hvar
end Go.AM
