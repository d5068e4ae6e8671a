/- The machine: shapes of what comes in. -/
import Derived.Test.YtelibaobkcokdaaGreatQU2Mxu
import Derived.Test.YtelibaobkcokdaaGreatQU2Seo
namespace Go.Proofs.YtelibaobkcokdaaGreat.Mx
set_option linter.unusedVariables false
set_option linter.unusedSimpArgs false
open Go Go.Kx Go.Proofs Go.Proofs.YtelibaobkcokdaaGreat
set_option maxRecDepth 8000
def shB:Sh:=.bool
theorem shB_read {c:List AV} (h:Enc shB c):∃b:Bool,c=[.v (.bool b)]:=h
def shPa:Sh:=.st (.fcons 1 shN (.fcons 1 shN (.fcons 1 shN (.fcons 1 shN (.fcons 1 shN (.fcons 1 shB (.fcons 1 shB .fnil)))))))
theorem shPa_read {c:List AV} (h:Enc shPa c):∃x:Pm,c=aPr x∧True:=by
 simp only[shPa,Enc] at h
 obtain ⟨x,y,rfl,_,hx,x2,y2,rfl,_,hx2,x3,y3,rfl,_,hx3,x4,y4,rfl,_,hx4,x5,y5,rfl,_,hx5,x6,y6,rfl,_,hx6,x7,y7,rfl,_,hx7,rfl⟩:=h
 obtain ⟨a,rfl,_⟩:=Q14 hx
 obtain ⟨b,rfl,_⟩:=Q14 hx2
 obtain ⟨c,rfl,_⟩:=Q14 hx3
 obtain ⟨d,rfl,_⟩:=Q14 hx4
 obtain ⟨e,rfl,_⟩:=Q14 hx5
 obtain ⟨f,rfl⟩:=shB_read hx6
 obtain ⟨g,rfl⟩:=shB_read hx7
 exact ⟨⟨a,b,c,d,e,f,g,[]⟩,rfl,trivial⟩
theorem shPa_ok:ShOk Tryz.prog shPa 36:=⟨_,Tryz.underlying36,rfl,by kernel_rfl,Tryz.underlying3,rfl,by kernel_rfl,Tryz.underlying3,rfl,by kernel_rfl,Tryz.underlying3,rfl,by kernel_rfl,Tryz.underlying3,rfl,by kernel_rfl,Tryz.underlying3,rfl,by kernel_rfl,Tryz.underlying4,rfl,by kernel_rfl,Tryz.underlying4,(by show 0+1+1+1+1+1+1+1=Tryz.prog.cellsOf 36;kernel_rfl)⟩
def shPx:Sh:=.st (.fcons 1 shN (.fcons 1 shN .fnil))
theorem shPx_read {c:List AV} (h:Enc shPx c):∃x:Int×Int,c=aPx x:=by
 simp only[shPx,Enc] at h
 obtain ⟨x,y,rfl,_,hx,x2,y2,rfl,_,hx2,rfl⟩:=h
 obtain ⟨a,rfl,_⟩:=Q14 hx
 obtain ⟨b,rfl,_⟩:=Q14 hx2
 exact ⟨(a,b),rfl⟩
def shPxs:Sh:=.sl 2 shPx
theorem J63 {cs:List AV} (h:Enc shPxs cs):∃l:List (Int×Int),cs=[aPxs l]∧l.length≤9223372036854775807:=enc_sl (f:=aPx) (fun _ hc=>shPx_read hc) h
theorem shPxs_ok:ShOk Tryz.prog shPxs 37:=⟨46,Tryz.underlying37,by kernel_rfl,by omega,_,Tryz.underlying46,rfl,by kernel_rfl,Tryz.underlying3,rfl,by kernel_rfl,Tryz.underlying3,(by show 0+1+1=Tryz.prog.cellsOf 46;kernel_rfl)⟩
end Go.Proofs.YtelibaobkcokdaaGreat.Mx
