/- strings.Trim and strconv.Atoi, told by the kit: pure calls over lists of bytes. -/
import Derived.Test.YtlifofijgddjkabGreatDoorAmSl
import Derived.Shelf.Strings.SlTrimAscii
import Derived.Shelf.Strconv.Atoi
namespace Go.AM
open Go.Proofs
variable {P:Program}
theorem blw_drewN {B:Nat} {w w':World} (h:Blw B w w'):∀ q,Blw B w (w'.drewN q)
 | 0=>h
 | q+1=>by
  have:=blw_drewN h q
  exact⟨⟨this.os,this.tape,this.output,this.size,this.block⟩,Nat.le_trans this.drawn (drn_mono (Nat.le_succ _))⟩
def trimM (s cs:List UInt8):Option (List UInt8):=bif Nat.ble s.length 4000000000 && (Nat.ble 2 cs.length && (Nat.ble cs.length 1000 && cs.all fun b=>Nat.blt b.toNat 128)) then some (Lib.trimS s cs) else none
theorem trim_pure {Z:Go.Shelf.Ren} (L:Lays.n160 P Z) (hv116:∀ w,(zeroValue (Z.t 116)).run P w=.ok (.agg (Array.replicate 256 (.bool false))) w) (hi116:(P.info? (Z.t 116)).map (·.size)=some 256)
  {f:FuncId} (hf:Z.f 160=f) (hfn:∃ fn,P.funcs[f]?=some fn/\(fn.name == "runtime.NumGoroutine")=false/\fn.body.isNone=false) {s cs:List UInt8} {r:List UInt8}
  (h:trimM s cs=some r):PureCall P f [.u (.one (.d (.str (bs s)))),.u (.one (.d (.str (bs cs))))] (.u (.one (.d (.str (bs r))))):=by
 subst hf
 unfold trimM at h
 cases hc:(Nat.ble s.length 4000000000 && (Nat.ble 2 cs.length && (Nat.ble cs.length 1000 && cs.all fun b=>Nat.blt b.toNat 128))) with
 | false=>rw[hc] at h; cases h
 | true =>
  rw[hc] at h
  cases h
  simp only[Bool.and_eq_true,List.all_eq_true] at hc
  obtain⟨h1,h2,h3,h4⟩:=hc
  have h1:=Nat.le_of_ble_eq_true h1
  have h2:=Nat.le_of_ble_eq_true h2
  have h3:=Nat.le_of_ble_eq_true h3
  refine⟨hfn,fun φ w F hF vals hl hv=>?_⟩
  match vals,hl with
  | [a,b],_ =>
   have ha:=hv 0 _ _ rfl rfl
   have hb:=hv 1 _ _ rfl rfl
   simp only[vsim,usim,csim,rep] at ha hb
   subst ha hb
   have hss:(bs s).size=s.length:=List.size_toArray
   have hcs:(bs cs).size=cs.length:=List.size_toArray
   by_cases hs0:s.length=0
   ·have hs:s=[]:=List.eq_nil_of_length_eq_zero hs0
    subst hs
    refine (Any.strings_Trim_empty L (bs []) (bs cs) w (.inl rfl)).mono fun e w' ⟨he,hw⟩=>⟨_,he,?_,?_⟩
    ·subst hw
     exact Blw.refl _ _
    ·simp[vsim,usim,csim,rep,Lib.trimS,Lib.trimLeftS,Lib.trimRightS]
   ·refine (Any.strings_Trim_set L hv116 hi116 (bs s) (bs cs) w (by omega) (by omega) (by omega) (by omega) fun j b hj=>?_).mono fun e w' ⟨he,q,hw⟩=>⟨_,he,?_,?_⟩
    ·have:=h4 b (List.mem_of_getElem? hj)
     simpa using this
    ·subst hw
     exact blw_drewN ((((Blw.refl _ w).alloc (Nat.le_refl _) _)).alloc (by simp) _) q
    ·simp only[vsim,usim,csim,rep]
     rfl
end Go.AM
