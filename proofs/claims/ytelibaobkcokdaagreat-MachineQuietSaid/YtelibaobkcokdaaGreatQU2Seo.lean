/- Serial: shapes of what comes in. -/
import Derived.Test.YtelibaobkcokdaaGreatQU2Pra
namespace Go.Proofs.YtelibaobkcokdaaGreat
set_option linter.unusedVariables false
set_option linter.unusedSimpArgs false
open Go Go.Kx Go.Proofs
def shIx:Sh:=.st (.fcons 1 shN (.fcons 1 shN (.fcons 1 shN (.fcons 1 shN .fnil))))
theorem shIx_read {c:List AV} (h:Enc shIx c):∃x:Ix,c=aIx x:=by
 simp only[shIx,Enc] at h
 obtain ⟨x,y,rfl,_,hx,x2,y2,rfl,_,hy,x3,y3,rfl,_,hz,x4,y4,rfl,_,hw,rfl⟩:=h
 obtain ⟨n,rfl,_⟩:=Q14 hx
 obtain ⟨m,rfl,_⟩:=Q14 hy
 obtain ⟨k,rfl,_⟩:=Q14 hz
 obtain ⟨j,rfl,_⟩:=Q14 hw
 exact ⟨⟨n,m,k,j⟩,rfl⟩
def shIxs:Sh:=.sl 4 shIx
theorem shIxs_read {cs:List AV} (h:Enc shIxs cs):∃l:List Ix,cs=[aIxs l]:=by
 obtain ⟨l,h,_⟩:=enc_sl (f:=aIx) (fun _ hc=>shIx_read hc) h
 exact ⟨l,h⟩
def shPr:Sh:=.st (.fcons 1 shN (.fcons 1 (.sl 1 shIxs) .fnil))
theorem shPr_read {cs:List AV} (h:Enc shPr cs):∃x:Int×List (List Ix),cs=aPr x.1 x.2∧x.2.length≤9223372036854775807:=by
 simp only[shPr,Enc] at h
 obtain ⟨x,y,rfl,_,hx,x2,y2,rfl,_,hy,rfl⟩:=h
 obtain ⟨n,rfl,_⟩:=Q14 hx
 obtain ⟨l,rfl,hl⟩:=enc_sl1 (f:=aIxs) (fun _ hc=>shIxs_read hc) (show Enc (.sl 1 shIxs) x2 from hy)
 exact ⟨(n,l),rfl,hl⟩
theorem shIx_ok:ShOk Tryz.prog shIx 126:=⟨_,Tryz.underlying126,rfl,by kernel_rfl,Tryz.underlying3,rfl,by kernel_rfl,Tryz.underlying3,rfl,by kernel_rfl,Tryz.underlying3,rfl,by kernel_rfl,Tryz.underlying3,(by show 0+1+1+1+1=Tryz.prog.cellsOf 126;kernel_rfl)⟩
theorem shIxs_ok:ShOk Tryz.prog shIxs 106:=⟨126,Tryz.underlying106,by kernel_rfl,by omega,shIx_ok⟩
theorem shPr_ok:ShOk Tryz.prog shPr 33:=⟨_,Tryz.underlying33,rfl,by kernel_rfl,Tryz.underlying3,rfl,by kernel_rfl,⟨106,Tryz.underlying31,by kernel_rfl,by omega,shIxs_ok⟩,(by show 0+1+1=Tryz.prog.cellsOf 33;kernel_rfl)⟩
theorem rel_agg {G:Gh} {cs:List AV} {xs:Array Value} (h:RelL G cs xs.toList):RelV G (.agg cs) (.agg xs):=RelV.agg cs xs.toList h.1 h.2
end Go.Proofs.YtelibaobkcokdaaGreat
