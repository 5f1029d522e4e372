/- The document's line of an op, walked: it is the code's. -/
import Derived.Test.YthlhnangbinhoaaGreatDoorSRK
set_option linter.unusedSimpArgs false
set_option linter.unusedVariables false
namespace Go.Proofs.YthlhnangbinhoaaGreatDoor.Dm
open Go.Dm
set_option maxHeartbeats 16000000
set_option maxRecDepth 20000
noncomputable def qb:FuncId→Bb:=Bw uO 30 GF
theorem HU:CQ Tryz.prog tt.get qb:=Z3.add AAL
theorem Hs:qb 30=GF:=rfl
theorem Ho:qb 57=I3 Gw:=rfl
theorem Hd:qb 59=I3 HH:=rfl
theorem Hb:qb 60=I3 HV:=rfl
theorem Hv:qb 56=EG:=rfl
theorem Hl:qb 58=FG:=rfl
theorem He:qb 61=EY:=rfl
theorem Ik {x y:List UInt8}{l:Ha}:Lib.join (x :: y :: l) [32] = x ++ 32 :: Lib.join (y :: l) [32]:=by simp [Lib.join]
theorem I1 {x:List UInt8}:Lib.join [x] [32] = x:=by simp [Lib.join]
theorem eU {o:Ax}{r:De}{s:List UInt8}(h:FP o.Kind BV=some r)(hl:IH o=some s):Lib.join (CE r.fields o 6 0 [r.word]) [32] = s:=by
 rw [tj h] at hl
 split at hl
 ·exact Option.some.inj hl
 ·cases hl
theorem AEL {a p g e t:Int}{b:List UInt8}(h:EK ⟨9,a,p,g,e,t,b⟩=true):b.length≤512:=by
 rw [tC] at h
 exact VN (o:=⟨9,a,p,g,e,t,b⟩) (F:=19) h Jd
def G9:Bb:= .pure (fun args _=>match args with | [v]=>dT v | _=>False) (fun args _=>match args with | [v]=>fO (Y0 v) | _=>undef)

theorem vF:A0 Tryz.prog 21 G9:=by
 refine .Fm Uk ?_ ?_
 ·rintro args hp h
  match args,h with
  | [_],⟨x,rfl,_⟩=>
   simp only [Br]
   unfold fO
   split <;> rfl
 intro args hp hpre top hcl hsc
 match args,hpre with
 | [_],⟨x,rfl,h⟩=>
 simp only [Br]
 have hI:=R5 h
 have hE:=Br (x:=x)
 simp only [Ai] at hI hE
 refine AR.A5 BA Uk rfl 69 rfl [.tmp 2, .tmp 3] rfl (show 1≤69 by decide) ?_
 have hm:=qz x
 cases hl:IH x with
 |none=>
  rw [hl] at hm
  rw [Sb hl]
  have hm:EK x=false:=hm
  refine CW.vc HU [0,1,2,3,4,7,13,28,37,46,56,59] (by kernel_rfl) ?_
  (repeat ((try refine Vc.mk' ?_);simp (maxSteps:=6000000) only [go_sem,Hs,Ho,Hd,Hb,Hv,Hl,He,GF,I3,EG,FG,EY,Br,AV,AH,decide_true,decide_false,Bool.not_true,Bool.not_false,hI,hE,hm]))
 |some s=>
  rw [hl] at hm
  rw [S5 hl]
  have hm:EK x=true:=hm
  have hk:1≤x.Kind∧x.Kind≤12:=by
   by_cases c:1≤x.Kind∧x.Kind≤12
   ·exact c
   ·unfold IH at hl
    rw [WD c] at hl
    cases hl
  have hr:=Lib.itoa_length_le x.Bj h.r.1 h.r.2
  have hp:=Lib.itoa_length_le x.C8 h.p.1 h.p.2
  have hg:=Lib.itoa_length_le x.B1 h.g.1 h.g.2
  have ht:=Lib.itoa_length_le x.CJ h.t.1 h.t.2
  have he:=Lib.itoa_length_le x.Bd (by have:=h.e0;omega) (by have:=h.e1;omega)
  have Ir:=eq_true h.r
  have Ip:=eq_true h.p
  have Ig:=eq_true h.g
  have It:=eq_true h.t
  obtain ⟨k,a,p,g,e,t,b⟩:=x
  dsimp only at *
  rcases iz hk with rfl | rfl | rfl | rfl | rfl | rfl | rfl | rfl | rfl | rfl | rfl | rfl
  ·have hs:=eU (r:=⟨1, [116,105,99,107],32⟩) rfl hl
   rw [←hs]
   refine CW.vc HU [0,1,2,3,4,7,13,28,37,46,56,59] (by kernel_rfl) ?_
   iterate 9 ((try (refine ⟨by first | omega | (simp only [List.length_append,List.length_cons,List.length_nil];omega), ?_⟩));(repeat ((try refine Vc.mk' ?_);simp (maxSteps:=6000000) only [go_sem,Hs,Ho,Hd,Hb,Hv,Hl,He,GF,I3,EG,FG,EY,Br,AV,AH,decide_true,decide_false,Bool.not_true,Bool.not_false,hI,hE,hm,show Cc 1= [116,105,99,107] from rfl,show Gw 1=true from rfl,show HH 1=false from rfl,show HV 1=false from rfl,Ir,Ip,Ig,It])))
   simp [CE,p2,Bu,Jb,JI,Jv,KG,JO,J5,Ik,I1]
  ·have hs:=eU (r:=⟨2, [99,117,116],3⟩) rfl hl
   rw [←hs]
   refine CW.vc HU [0,1,2,3,4,7,13,28,37,46,56,59] (by kernel_rfl) ?_
   iterate 9 ((try (refine ⟨by first | omega | (simp only [List.length_append,List.length_cons,List.length_nil];omega), ?_⟩));(repeat ((try refine Vc.mk' ?_);simp (maxSteps:=6000000) only [go_sem,Hs,Ho,Hd,Hb,Hv,Hl,He,GF,I3,EG,FG,EY,Br,AV,AH,decide_true,decide_false,Bool.not_true,Bool.not_false,hI,hE,hm,show Cc 2= [99,117,116] from rfl,show Gw 2=false from rfl,show HH 2=true from rfl,show HV 2=false from rfl,Ir,Ip,Ig,It])))
   simp [CE,p2,Bu,Mm,Mo,O9,PQ,NG,PR,Ik,I1]
  ·have hs:=eU (r:=⟨3, [109,101,110,100],3⟩) rfl hl
   rw [←hs]
   refine CW.vc HU [0,1,2,3,4,7,13,28,37,46,56,59] (by kernel_rfl) ?_
   iterate 9 ((try (refine ⟨by first | omega | (simp only [List.length_append,List.length_cons,List.length_nil];omega), ?_⟩));(repeat ((try refine Vc.mk' ?_);simp (maxSteps:=6000000) only [go_sem,Hs,Ho,Hd,Hb,Hv,Hl,He,GF,I3,EG,FG,EY,Br,AV,AH,decide_true,decide_false,Bool.not_true,Bool.not_false,hI,hE,hm,show Cc 3= [109,101,110,100] from rfl,show Gw 3=false from rfl,show HH 3=true from rfl,show HV 3=false from rfl,Ir,Ip,Ig,It])))
   simp [CE,p2,Bu,Mm,Mo,O9,PQ,NG,PR,Ik,I1]
  ·have hs:=eU (r:=⟨4, [99,114,97,115,104],1⟩) rfl hl
   rw [←hs]
   refine CW.vc HU [0,1,2,3,4,7,13,28,37,46,56,59] (by kernel_rfl) ?_
   iterate 9 ((try (refine ⟨by first | omega | (simp only [List.length_append,List.length_cons,List.length_nil];omega), ?_⟩));(repeat ((try refine Vc.mk' ?_);simp (maxSteps:=6000000) only [go_sem,Hs,Ho,Hd,Hb,Hv,Hl,He,GF,I3,EG,FG,EY,Br,AV,AH,decide_true,decide_false,Bool.not_true,Bool.not_false,hI,hE,hm,show Cc 4= [99,114,97,115,104] from rfl,show Gw 4=false from rfl,show HH 4=false from rfl,show HV 4=false from rfl,Ir,Ip,Ig,It])))
   simp [CE,p2,Bu,Jw,J8,L5,L4,KH,Lx,Ik,I1]
  ·have hs:=eU (r:=⟨5, [115,116,97,114,116],1⟩) rfl hl
   rw [←hs]
   refine CW.vc HU [0,1,2,3,4,7,13,28,37,46,56,59] (by kernel_rfl) ?_
   iterate 9 ((try (refine ⟨by first | omega | (simp only [List.length_append,List.length_cons,List.length_nil];omega), ?_⟩));(repeat ((try refine Vc.mk' ?_);simp (maxSteps:=6000000) only [go_sem,Hs,Ho,Hd,Hb,Hv,Hl,He,GF,I3,EG,FG,EY,Br,AV,AH,decide_true,decide_false,Bool.not_true,Bool.not_false,hI,hE,hm,show Cc 5= [115,116,97,114,116] from rfl,show Gw 5=false from rfl,show HH 5=false from rfl,show HV 5=false from rfl,Ir,Ip,Ig,It])))
   simp [CE,p2,Bu,Jw,J8,L5,L4,KH,Lx,Ik,I1]
  ·have hs:=eU (r:=⟨6, [106,111,105,110],5⟩) rfl hl
   rw [←hs]
   refine CW.vc HU [0,1,2,3,4,7,13,28,37,46,56,59] (by kernel_rfl) ?_
   iterate 9 ((try (refine ⟨by first | omega | (simp only [List.length_append,List.length_cons,List.length_nil];omega), ?_⟩));(repeat ((try refine Vc.mk' ?_);simp (maxSteps:=6000000) only [go_sem,Hs,Ho,Hd,Hb,Hv,Hl,He,GF,I3,EG,FG,EY,Br,AV,AH,decide_true,decide_false,Bool.not_true,Bool.not_false,hI,hE,hm,show Cc 6= [106,111,105,110] from rfl,show Gw 6=false from rfl,show HH 6=false from rfl,show HV 6=true from rfl,Ir,Ip,Ig,It])))
   simp [CE,p2,Bu,Kb,Jz,L6,Lz,Kg,Lt,Ik,I1]
  ·have hs:=eU (r:=⟨7, [108,101,97,118,101],5⟩) rfl hl
   rw [←hs]
   refine CW.vc HU [0,1,2,3,4,7,13,28,37,46,56,59] (by kernel_rfl) ?_
   iterate 9 ((try (refine ⟨by first | omega | (simp only [List.length_append,List.length_cons,List.length_nil];omega), ?_⟩));(repeat ((try refine Vc.mk' ?_);simp (maxSteps:=6000000) only [go_sem,Hs,Ho,Hd,Hb,Hv,Hl,He,GF,I3,EG,FG,EY,Br,AV,AH,decide_true,decide_false,Bool.not_true,Bool.not_false,hI,hE,hm,show Cc 7= [108,101,97,118,101] from rfl,show Gw 7=false from rfl,show HH 7=false from rfl,show HV 7=true from rfl,Ir,Ip,Ig,It])))
   simp [CE,p2,Bu,Kb,Jz,L6,Lz,Kg,Lt,Ik,I1]
  ·have hs:=eU (r:=⟨8, [115,101,110,100],13⟩) rfl hl
   rw [←hs]
   have Ie:Fh e=True:=eq_true ⟨by have:=h.e0;dsimp only at this;omega,by have:=h.e1;dsimp only at this;omega⟩
   have we:Ap .i64 e=e:=wrap64 (by have:=h.e0;dsimp only at this;omega) (by have:=h.e1;dsimp only at this;omega)
   refine CW.vc HU [0,1,2,3,4,7,13,28,37,46,56,59] (by kernel_rfl) ?_
   iterate 9 ((try (refine ⟨by first | omega | (simp only [List.length_append,List.length_cons,List.length_nil];omega), ?_⟩));(repeat ((try refine Vc.mk' ?_);simp (maxSteps:=6000000) only [go_sem,Hs,Ho,Hd,Hb,Hv,Hl,He,GF,I3,EG,FG,EY,Br,AV,AH,decide_true,decide_false,Bool.not_true,Bool.not_false,hI,hE,hm,show Cc 8= [115,101,110,100] from rfl,show Gw 8=false from rfl,show HH 8=false from rfl,show HV 8=true from rfl,Ir,Ip,Ig,It,Ie,we])))
   simp [CE,p2,Bu,MU,MD,Oi,Oq,MI,OD,Ik,I1,Ie,we]
  ·have hs:=eU (r:=⟨9, [114,97,119],19⟩) rfl hl
   rw [←hs]
   have hbl:b.length≤512:=AEL hm
   have hx:=Ea b
   have hb2:(b.length≤2000)=True:=eq_true (by omega)
   by_cases hb:b= []
   ·subst hb
    refine CW.vc HU [0,1,2,3,4,7,13,28,37,46,56,59] (by kernel_rfl) ?_
    iterate 9 ((try (refine ⟨by first | omega | (simp only [List.length_append,List.length_cons,List.length_nil];omega), ?_⟩));(repeat ((try refine Vc.mk' ?_);simp (maxSteps:=6000000) only [go_sem,Hs,Ho,Hd,Hb,Hv,Hl,He,GF,I3,EG,FG,EY,Br,AV,AH,decide_true,decide_false,Bool.not_true,Bool.not_false,hI,hE,hm,show Cc 9= [114,97,119] from rfl,show Gw 9=false from rfl,show HH 9=true from rfl,show HV 9=false from rfl,Ir,Ip,Ig,It,show Pg [] = [45] from rfl])))
    simp [CE,p2,Bu,Kt,Kk,MW,Mb,Jd,MV,Ik,I1,show Pg [] = [45] from rfl]
   ·have hxe:Pg b=CY b:=by unfold Pg;rw [if_neg hb]
    refine CW.vc HU [0,1,2,3,4,7,13,28,37,46,56,59] (by kernel_rfl) ?_
    iterate 9 ((try (refine ⟨by first | omega | (simp only [List.length_append,List.length_cons,List.length_nil];omega), ?_⟩));(repeat ((try refine Vc.mk' ?_);simp (maxSteps:=6000000) only [go_sem,Hs,Ho,Hd,Hb,Hv,Hl,He,GF,I3,EG,FG,EY,Br,AV,AH,decide_true,decide_false,Bool.not_true,Bool.not_false,hI,hE,hm,show Cc 9= [114,97,119] from rfl,show Gw 9=false from rfl,show HH 9=true from rfl,show HV 9=false from rfl,Ir,Ip,Ig,It,hb,hb2,hxe])))
    simp [CE,p2,Bu,Kt,Kk,MW,Mb,Jd,MV,Ik,I1,hb,hb2,hxe]
  ·have hs:=eU (r:=⟨10, [115,101,116,116,108,101],32⟩) rfl hl
   rw [←hs]
   refine CW.vc HU [0,1,2,3,4,7,13,28,37,46,56,59] (by kernel_rfl) ?_
   iterate 9 ((try (refine ⟨by first | omega | (simp only [List.length_append,List.length_cons,List.length_nil];omega), ?_⟩));(repeat ((try refine Vc.mk' ?_);simp (maxSteps:=6000000) only [go_sem,Hs,Ho,Hd,Hb,Hv,Hl,He,GF,I3,EG,FG,EY,Br,AV,AH,decide_true,decide_false,Bool.not_true,Bool.not_false,hI,hE,hm,show Cc 10= [115,101,116,116,108,101] from rfl,show Gw 10=true from rfl,show HH 10=false from rfl,show HV 10=false from rfl,Ir,Ip,Ig,It])))
   simp [CE,p2,Bu,Jb,JI,Jv,KG,JO,J5,Ik,I1]
  ·have hs:=eU (r:=⟨11, [119,104,111],5⟩) rfl hl
   rw [←hs]
   refine CW.vc HU [0,1,2,3,4,7,13,28,37,46,56,59] (by kernel_rfl) ?_
   iterate 9 ((try (refine ⟨by first | omega | (simp only [List.length_append,List.length_cons,List.length_nil];omega), ?_⟩));(repeat ((try refine Vc.mk' ?_);simp (maxSteps:=6000000) only [go_sem,Hs,Ho,Hd,Hb,Hv,Hl,He,GF,I3,EG,FG,EY,Br,AV,AH,decide_true,decide_false,Bool.not_true,Bool.not_false,hI,hE,hm,show Cc 11= [119,104,111] from rfl,show Gw 11=false from rfl,show HH 11=false from rfl,show HV 11=true from rfl,Ir,Ip,Ig,It])))
   simp [CE,p2,Bu,Kb,Jz,L6,Lz,Kg,Lt,Ik,I1]
  ·have hs:=eU (r:=⟨12, [116,97,98,108,101],1⟩) rfl hl
   rw [←hs]
   refine CW.vc HU [0,1,2,3,4,7,13,28,37,46,56,59] (by kernel_rfl) ?_
   iterate 9 ((try (refine ⟨by first | omega | (simp only [List.length_append,List.length_cons,List.length_nil];omega), ?_⟩));(repeat ((try refine Vc.mk' ?_);simp (maxSteps:=6000000) only [go_sem,Hs,Ho,Hd,Hb,Hv,Hl,He,GF,I3,EG,FG,EY,Br,AV,AH,decide_true,decide_false,Bool.not_true,Bool.not_false,hI,hE,hm,show Cc 12= [116,97,98,108,101] from rfl,show Gw 12=false from rfl,show HH 12=false from rfl,show HV 12=false from rfl,Ir,Ip,Ig,It])))
   simp [CE,p2,Bu,Jw,J8,L5,L4,KH,Lx,Ik,I1]
end Go.Proofs.YthlhnangbinhoaaGreatDoor.Dm
