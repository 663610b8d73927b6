/- Functions of Go's strings package, told by the kit: pure calls over lists of bytes. -/
import Derived.Test.YtffohfmfehjbmaaGreatDoorAmMp
import Derived.Shelf.Strings.Cut
import Derived.Shelf.Strings.Split
import Derived.Shelf.Strings.SlTrimAscii
import Derived.Shelf.Strconv.Atoi
namespace Go.AM
open Go.Proofs
variable {P:Program}
def cutS (s sep:List UInt8):Option (List UInt8×List UInt8×Bool):=bif Nat.ble s.length 4000000000 then some (Lib.cut s sep) else none
theorem cut_pure {Z:Go.Shelf.Ren} (L:Lays.n145 P Z) (hg:gany (Z.g 1)=true) {f:FuncId} (hf:Z.f 145=f) (hfn:∃ fn,P.funcs[f]?=some fn/\(fn.name == "runtime.NumGoroutine")=false/\fn.body.isNone=false) {s sep:List UInt8} {r:List UInt8×List UInt8×Bool}
  (h:cutS s sep=some r):PureCall P f [.u (.one (.d (.str (bs s)))),.u (.one (.d (.str (bs sep))))] (.tup [.one (.d (.str (bs r.1))),.one (.d (.str (bs r.2.1))),.one (.d (.bool r.2.2))]):=by
 subst hf
 unfold cutS at h
 cases hc:Nat.ble s.length 4000000000 with
 | false=>rw[hc] at h; cases h
 | true =>
  rw[hc] at h
  cases h
  have hlen:=Nat.le_of_ble_eq_true hc
  refine⟨hfn,fun φ w F hF vals hl hv=>?_⟩
  obtain⟨m,hm⟩:=(hF.gw.any _ hg).2
  match vals,hl with
  | [a,b],_ =>
   have ha:=hv 0 _ _ rfl rfl
   have hb:=hv 1 _ _ rfl rfl
   simp only[vsim,usim,csim,rep] at ha hb
   subst ha hb
   have hs:(bs s).size < 4294967281:=by show s.toArray.size < _; rw[List.size_toArray]; omega
   have hcut:=Any.strings_Cut L (bs s) (bs sep) m w hs hm
   rw[show (bs s).data.toList=s from rfl,show (bs sep).data.toList=sep from rfl] at hcut
   refine hcut.mono fun e w' ⟨he,n,hw⟩=>⟨_,he,?_,?_⟩
   ·subst hw
    exact⟨⟨rfl,rfl,rfl,Nat.le_refl _,fun _ _=>rfl⟩,drn_mono (Nat.le_add_right _ _)⟩
   ·exact⟨_,rfl,_,_,rfl,rfl,_,_,rfl,rfl,_,_,rfl,rfl,rfl⟩
end Go.AM
namespace Go.AM
open Go.Proofs
variable {P:Program}
theorem blw_drewN {B:Nat} {w w':World} (h:Blw B w w'):∀ q,Blw B w (w'.drewN q)
 | 0=>h
 | q+1=>by
  have:=blw_drewN h q
  exact⟨⟨this.os,this.tape,this.output,this.size,this.block⟩,Nat.le_trans this.drawn (drn_mono (Nat.le_succ _))⟩
end Go.AM
