/- An op may be by the document as by the code; its line is the code's: plain. -/
import Derived.Test.YthlhnangbinhoaaGreatDoorSRM
import Derived.KernelRfl
set_option linter.unusedVariables false
namespace Go.Proofs.YthlhnangbinhoaaGreatDoor.Dm
open Go.Dm
set_option maxHeartbeats 16000000
set_option maxRecDepth 20000
theorem sn {o:A0}{r:Da}(h:FG o.Kind BI=some r):Ik o=if CX o r.fields=true then some (Lib.join (B8 r.fields o 6 0 [r.word]) [32]) else none:=by unfold Ik;rw [h]
theorem GG{o:A0}{r:Da}(h:FG o.Kind BI=some r):(Ik o).isSome=CX o r.fields:=by
 rw[sn h]
 cases CX o r.fields <;> rfl
theorem WT {k:Int}(h:¬(1≤k∧k≤12)):FG k BI=none:=by
 have hn:∀n:Int,1≤n→n≤12→¬n=k:=fun n a b c=>h ⟨by omega,by omega⟩
 unfold BI
 simp only [FG,hn 1 (by decide) (by decide),hn 2 (by decide) (by decide),hn 3 (by decide) (by decide),hn 4 (by decide) (by decide),hn 5 (by decide) (by decide),hn 6 (by decide) (by decide),hn 7 (by decide) (by decide),hn 8 (by decide) (by decide),hn 9 (by decide) (by decide),hn 10 (by decide) (by decide),hn 11 (by decide) (by decide),hn 12 (by decide) (by decide),if_false]
theorem AAq {r p g e t:Int}{b:List UInt8}:D9 ⟨1,r,p,g,e,t,b⟩=CX ⟨1,r,p,g,e,t,b⟩ 32:=by
 have n0:¬Ca 1= []:=by decide
 have ht:Gm 1=true:=by decide
 have hp:HK 1=false:=by decide
 have hg:HJ 1=false:=by decide
 rw [Bool.eq_iff_iff]
 unfold D9
 simp only [n0,ht,hp,hg,CX,m1,m2,m3,m4,m5,m6,I4,I5,KE,KF,I6,KG,GC,if_true,if_false,Bool.false_eq_true]
 simp
 try simp only [←List.length_eq_zero_iff]
 omega
theorem AAr {r p g e t:Int}{b:List UInt8}:D9 ⟨2,r,p,g,e,t,b⟩=CX ⟨2,r,p,g,e,t,b⟩ 3:=by
 have n0:¬Ca 2= []:=by decide
 have ht:Gm 2=false:=by decide
 have hp:HK 2=true:=by decide
 have hg:HJ 2=false:=by decide
 rw [Bool.eq_iff_iff]
 unfold D9
 simp only [n0,ht,hp,hg,CX,m1,m2,m3,m4,m5,m6,M1,M3,Ox,Oy,M4,Oz,GC,if_true,if_false,Bool.false_eq_true]
 simp
 try simp only [←List.length_eq_zero_iff]
 omega
theorem AAs {r p g e t:Int}{b:List UInt8}:D9 ⟨3,r,p,g,e,t,b⟩=CX ⟨3,r,p,g,e,t,b⟩ 3:=by
 have n0:¬Ca 3= []:=by decide
 have ht:Gm 3=false:=by decide
 have hp:HK 3=true:=by decide
 have hg:HJ 3=false:=by decide
 rw [Bool.eq_iff_iff]
 unfold D9
 simp only [n0,ht,hp,hg,CX,m1,m2,m3,m4,m5,m6,M1,M3,Ox,Oy,M4,Oz,GC,if_true,if_false,Bool.false_eq_true]
 simp
 try simp only [←List.length_eq_zero_iff]
 omega
theorem AAt {r p g e t:Int}{b:List UInt8}:D9 ⟨4,r,p,g,e,t,b⟩=CX ⟨4,r,p,g,e,t,b⟩ 1:=by
 have n0:¬Ca 4= []:=by decide
 have ht:Gm 4=false:=by decide
 have hp:HK 4=false:=by decide
 have hg:HJ 4=false:=by decide
 rw [Bool.eq_iff_iff]
 unfold D9
 simp only [n0,ht,hp,hg,CX,m1,m2,m3,m4,m5,m6,KB,KC,La,Lc,KD,Ld,GC,if_true,if_false,Bool.false_eq_true]
 simp
 try simp only [←List.length_eq_zero_iff]
 omega
theorem AAu {r p g e t:Int}{b:List UInt8}:D9 ⟨5,r,p,g,e,t,b⟩=CX ⟨5,r,p,g,e,t,b⟩ 1:=by
 have n0:¬Ca 5= []:=by decide
 have ht:Gm 5=false:=by decide
 have hp:HK 5=false:=by decide
 have hg:HJ 5=false:=by decide
 rw [Bool.eq_iff_iff]
 unfold D9
 simp only [n0,ht,hp,hg,CX,m1,m2,m3,m4,m5,m6,KB,KC,La,Lc,KD,Ld,GC,if_true,if_false,Bool.false_eq_true]
 simp
 try simp only [←List.length_eq_zero_iff]
 omega
theorem AAv {r p g e t:Int}{b:List UInt8}:D9 ⟨6,r,p,g,e,t,b⟩=CX ⟨6,r,p,g,e,t,b⟩ 5:=by
 have n0:¬Ca 6= []:=by decide
 have ht:Gm 6=false:=by decide
 have hp:HK 6=false:=by decide
 have hg:HJ 6=true:=by decide
 rw [Bool.eq_iff_iff]
 unfold D9
 simp only [n0,ht,hp,hg,CX,m1,m2,m3,m4,m5,m6,KH,KI,Le,Lf,KJ,Lg,GC,if_true,if_false,Bool.false_eq_true]
 simp
 try simp only [←List.length_eq_zero_iff]
 omega
theorem AAw {r p g e t:Int}{b:List UInt8}:D9 ⟨7,r,p,g,e,t,b⟩=CX ⟨7,r,p,g,e,t,b⟩ 5:=by
 have n0:¬Ca 7= []:=by decide
 have ht:Gm 7=false:=by decide
 have hp:HK 7=false:=by decide
 have hg:HJ 7=true:=by decide
 rw [Bool.eq_iff_iff]
 unfold D9
 simp only [n0,ht,hp,hg,CX,m1,m2,m3,m4,m5,m6,KH,KI,Le,Lf,KJ,Lg,GC,if_true,if_false,Bool.false_eq_true]
 simp
 try simp only [←List.length_eq_zero_iff]
 omega
theorem AAx {r p g e t:Int}{b:List UInt8}:D9 ⟨8,r,p,g,e,t,b⟩=CX ⟨8,r,p,g,e,t,b⟩ 13:=by
 have n0:¬Ca 8= []:=by decide
 have ht:Gm 8=false:=by decide
 have hp:HK 8=false:=by decide
 have hg:HJ 8=true:=by decide
 rw [Bool.eq_iff_iff]
 unfold D9
 simp only [n0,ht,hp,hg,CX,m1,m2,m3,m4,m5,m6,MA,MB,N9,OA,MC,OB,GC,if_true,if_false,Bool.false_eq_true]
 simp
 try simp only [←List.length_eq_zero_iff]
 omega
theorem sq {r p g e t:Int}{b:List UInt8}:D9 ⟨9,r,p,g,e,t,b⟩=CX ⟨9,r,p,g,e,t,b⟩ 19:=by
 have n0:¬Ca 9= []:=by decide
 have ht:Gm 9=false:=by decide
 have hp:HK 9=true:=by decide
 have hg:HJ 9=false:=by decide
 rw [Bool.eq_iff_iff]
 unfold D9
 simp only [n0,ht,hp,hg,CX,m1,m2,m3,m4,m5,m6,J9,KA,MD,ME,I3,MF,GC,if_true,if_false,Bool.false_eq_true]
 simp
 try simp only [←List.length_eq_zero_iff]
 omega
theorem vG {r p g e t:Int}{b:List UInt8}:D9 ⟨10,r,p,g,e,t,b⟩=CX ⟨10,r,p,g,e,t,b⟩ 32:=by
 have n0:¬Ca 10= []:=by decide
 have ht:Gm 10=true:=by decide
 have hp:HK 10=false:=by decide
 have hg:HJ 10=false:=by decide
 rw [Bool.eq_iff_iff]
 unfold D9
 simp only [n0,ht,hp,hg,CX,m1,m2,m3,m4,m5,m6,I4,I5,KE,KF,I6,KG,GC,if_true,if_false,Bool.false_eq_true]
 simp
 try simp only [←List.length_eq_zero_iff]
 omega
theorem vH {r p g e t:Int}{b:List UInt8}:D9 ⟨11,r,p,g,e,t,b⟩=CX ⟨11,r,p,g,e,t,b⟩ 5:=by
 have n0:¬Ca 11= []:=by decide
 have ht:Gm 11=false:=by decide
 have hp:HK 11=false:=by decide
 have hg:HJ 11=true:=by decide
 rw [Bool.eq_iff_iff]
 unfold D9
 simp only [n0,ht,hp,hg,CX,m1,m2,m3,m4,m5,m6,KH,KI,Le,Lf,KJ,Lg,GC,if_true,if_false,Bool.false_eq_true]
 simp
 try simp only [←List.length_eq_zero_iff]
 omega
theorem vI {r p g e t:Int}{b:List UInt8}:D9 ⟨12,r,p,g,e,t,b⟩=CX ⟨12,r,p,g,e,t,b⟩ 1:=by
 have n0:¬Ca 12= []:=by decide
 have ht:Gm 12=false:=by decide
 have hp:HK 12=false:=by decide
 have hg:HJ 12=false:=by decide
 rw [Bool.eq_iff_iff]
 unfold D9
 simp only [n0,ht,hp,hg,CX,m1,m2,m3,m4,m5,m6,KB,KC,La,Lc,KD,Ld,GC,if_true,if_false,Bool.false_eq_true]
 simp
 try simp only [←List.length_eq_zero_iff]
 omega
theorem jO{k:Int}(h:1≤k∧k≤12):k=1∨k=2∨k=3∨k=4∨k=5∨k=6∨k=7∨k=8∨k=9∨k=10∨k=11∨k=12:=by omega
theorem pC (o:A0):D9 o=(Ik o).isSome:=by
 by_cases h:1≤o.Kind∧o.Kind≤12
 ·obtain ⟨k,r,p,g,e,t,b⟩:=o
  rcases jO h with h | h | h | h | h | h | h | h | h | h | h | h <;> dsimp only at h <;> subst h
  ·rw [AAq];exact (GG (o:=⟨1,r,p,g,e,t,b⟩) (r:=at' BI 0) rfl).symm
  ·rw [AAr];exact (GG (o:=⟨2,r,p,g,e,t,b⟩) (r:=at' BI 1) rfl).symm
  ·rw [AAs];exact (GG (o:=⟨3,r,p,g,e,t,b⟩) (r:=at' BI 2) rfl).symm
  ·rw [AAt];exact (GG (o:=⟨4,r,p,g,e,t,b⟩) (r:=at' BI 3) rfl).symm
  ·rw [AAu];exact (GG (o:=⟨5,r,p,g,e,t,b⟩) (r:=at' BI 4) rfl).symm
  ·rw [AAv];exact (GG (o:=⟨6,r,p,g,e,t,b⟩) (r:=at' BI 5) rfl).symm
  ·rw [AAw];exact (GG (o:=⟨7,r,p,g,e,t,b⟩) (r:=at' BI 6) rfl).symm
  ·rw [AAx];exact (GG (o:=⟨8,r,p,g,e,t,b⟩) (r:=at' BI 7) rfl).symm
  ·rw [sq];exact (GG (o:=⟨9,r,p,g,e,t,b⟩) (r:=at' BI 8) rfl).symm
  ·rw [vG];exact (GG (o:=⟨10,r,p,g,e,t,b⟩) (r:=at' BI 9) rfl).symm
  ·rw [vH];exact (GG (o:=⟨11,r,p,g,e,t,b⟩) (r:=at' BI 10) rfl).symm
  ·rw [vI];exact (GG (o:=⟨12,r,p,g,e,t,b⟩) (r:=at' BI 11) rfl).symm
 ·have e1:Ca o.Kind= []:=by unfold Ca;rw [if_neg h]
  unfold D9 Ik
  rw [if_pos e1,WT h];rfl
end Go.Proofs.YthlhnangbinhoaaGreatDoor.Dm
set_option linter.unusedVariables false
namespace Go.Proofs.YthlhnangbinhoaaGreatDoor.Dm
open Go.Dm
set_option maxHeartbeats 16000000
set_option maxRecDepth 20000
noncomputable def nD:FuncId→BE:=BV tR 30 F3
theorem Gx:Bp Tryz.prog tt.get nD:=Z8.add AA7
theorem HO:nD 30=F3:=rfl
theorem H3:nD 57=Hn Gm:=rfl
theorem Je:nD 59=Hn HK:=rfl
theorem Jd:nD 60=Hn HJ:=rfl
theorem Hy:nD 56=ED:=rfl
theorem Hz:nD 58=FE:=rfl
theorem y6:nD 61=UK:=rfl
theorem IQ {x y:List UInt8}{l:Ec}:Lib.join (x :: y :: l) [32] = x ++ 32 :: Lib.join (y :: l) [32]:=by simp [Lib.join]
theorem IP{x:List UInt8}:Lib.join [x] [32] = x:=by simp[Lib.join]
theorem fg {o:A0}{r:Da}{s:List UInt8}(h:FG o.Kind BI=some r)(hl:Ik o=some s):Lib.join (B8 r.fields o 6 0 [r.word]) [32] = s:=by
 rw [sn h] at hl
 split at hl
 ·exact Option.some.inj hl
 ·cases hl
theorem AET {a p g e t:Int}{b:List UInt8}(h:D9 ⟨9,a,p,g,e,t,b⟩=true):b.length≤512:=by
 rw [sq] at h
 exact U6 (o:=⟨9,a,p,g,e,t,b⟩) (F:=19) h I3
def Js:BE:= .pure (fun args _=>match args with | [v]=>gH v | _=>False) (fun args _=>match args with | [v]=>mx (Yz v) | _=>undef)
theorem vD:Ag Tryz.prog 21 Js:=by
 refine .EK aG ?_ ?_
 ·rintro args hp h
  match args,h with
  | [_],⟨x,rfl,_⟩=>
   simp only [Ej]
   unfold mx
   split <;> rfl
 intro args hp hpre top hcl hsc
 match args,hpre with
 | [_],⟨x,rfl,h⟩=>
 simp only [Ej]
 have hI:=Ut h
 have hE:=Ej (x:=x)
 simp only [Az] at hI hE
 refine AJ.Af Am aG rfl 69 rfl [.tmp 2, .tmp 3] rfl (show 1≤69 by decide) ?_
 have hm:=pC x
 cases hl:Ik x with
 |none=>
  rw [hl] at hm
  rw [W0 hl]
  have hm:D9 x=false:=hm
  refine CW.vc Gx [0,1,2,3,4,7,13,28,37,46,56,59] (by kernel_rfl) ?_
  (repeat ((try refine Vc.mk' ?_);simp (maxSteps:=6000000) only [go_sem,HO,F3,Bool.not_false,hI,hE,hm]))
 |some s=>
  rw [hl] at hm
  rw [W1 hl]
  have hm:D9 x=true:=hm
  have hk:1≤x.Kind∧x.Kind≤12:=by
   by_cases c:1≤x.Kind∧x.Kind≤12
   ·exact c
   ·unfold Ik at hl
    rw [WT c] at hl
    cases hl
  have hr:=Lib.itoa_length_le x.Bg h.r.1 h.r.2
  have hp:=Lib.itoa_length_le x.DQ h.p.1 h.p.2
  have hg:=Lib.itoa_length_le x.CH h.g.1 h.g.2
  have ht:=Lib.itoa_length_le x.Cj h.t.1 h.t.2
  have he:=Lib.itoa_length_le x.Be (by have:=h.e0;omega) (by have:=h.e1;omega)
  have Ir:=eq_true h.r
  have Ip:=eq_true h.p
  have Ig:=eq_true h.g
  have It:=eq_true h.t
  obtain ⟨k,a,p,g,e,t,b⟩:=x
  dsimp only at *
  rcases jO hk with rfl | rfl | rfl | rfl | rfl | rfl | rfl | rfl | rfl | rfl | rfl | rfl
  ·have hs:=fg (r:=⟨1, [116,105,99,107],32⟩) rfl hl
   rw [←hs]
   refine CW.vc Gx [0,1,2,3,4,7,13,28,37,46,56,59] (by kernel_rfl) ?_
   iterate 9 ((try (refine ⟨by first | omega | (simp only [];omega), ?_⟩));(repeat ((try refine Vc.mk' ?_);simp (maxSteps:=6000000) only [go_sem,HO,H3,Hy,Hz,F3,Hn,ED,FE,AH,Bool.not_true,hI,hE,hm,show Ca 1= [116,105,99,107] from rfl,show Gm 1=true from rfl,It])))
   simp [B8,p2,Bk,I4,I5,KE,KF,I6,KG,IQ,IP]
  ·have hs:=fg (r:=⟨2, [99,117,116],3⟩) rfl hl
   rw [←hs]
   refine CW.vc Gx [0,1,2,3,4,7,13,28,37,46,56,59] (by kernel_rfl) ?_
   iterate 9 ((try (refine ⟨by first | omega | (simp only [List.length_append,List.length_cons,List.length_nil];omega), ?_⟩));(repeat ((try refine Vc.mk' ?_);simp (maxSteps:=6000000) only [go_sem,HO,H3,Je,Jd,Hy,Hz,F3,Hn,ED,FE,AH,decide_false,Bool.not_true,hI,hE,hm,show Ca 2= [99,117,116] from rfl,show Gm 2=false from rfl,show HK 2=true from rfl,show HJ 2=false from rfl,Ir,Ip])))
   simp [B8,p2,Bk,M1,M3,Ox,Oy,M4,Oz,IQ,IP]
  ·have hs:=fg (r:=⟨3, [109,101,110,100],3⟩) rfl hl
   rw [←hs]
   refine CW.vc Gx [0,1,2,3,4,7,13,28,37,46,56,59] (by kernel_rfl) ?_
   iterate 9 ((try (refine ⟨by first | omega | (simp only [List.length_append,List.length_cons,List.length_nil];omega), ?_⟩));(repeat ((try refine Vc.mk' ?_);simp (maxSteps:=6000000) only [go_sem,HO,H3,Je,Jd,Hy,Hz,F3,Hn,ED,FE,AH,decide_false,Bool.not_true,hI,hE,hm,show Ca 3= [109,101,110,100] from rfl,show Gm 3=false from rfl,show HK 3=true from rfl,show HJ 3=false from rfl,Ir,Ip])))
   simp [B8,p2,Bk,M1,M3,Ox,Oy,M4,Oz,IQ,IP]
  ·have hs:=fg (r:=⟨4, [99,114,97,115,104],1⟩) rfl hl
   rw [←hs]
   refine CW.vc Gx [0,1,2,3,4,7,13,28,37,46,56,59] (by kernel_rfl) ?_
   iterate 9 ((try (refine ⟨by first | omega | (simp only [];omega), ?_⟩));(repeat ((try refine Vc.mk' ?_);simp (maxSteps:=6000000) only [go_sem,HO,H3,Je,Jd,Hy,Hz,F3,Hn,ED,FE,AH,decide_false,Bool.not_true,hI,hE,hm,show Ca 4= [99,114,97,115,104] from rfl,show Gm 4=false from rfl,show HK 4=false from rfl,show HJ 4=false from rfl,Ir])))
   simp [B8,p2,Bk,KB,KC,La,Lc,KD,Ld,IQ,IP]
  ·have hs:=fg (r:=⟨5, [115,116,97,114,116],1⟩) rfl hl
   rw [←hs]
   refine CW.vc Gx [0,1,2,3,4,7,13,28,37,46,56,59] (by kernel_rfl) ?_
   iterate 9 ((try (refine ⟨by first | omega | (simp only [];omega), ?_⟩));(repeat ((try refine Vc.mk' ?_);simp (maxSteps:=6000000) only [go_sem,HO,H3,Je,Jd,Hy,Hz,F3,Hn,ED,FE,AH,decide_false,Bool.not_true,hI,hE,hm,show Ca 5= [115,116,97,114,116] from rfl,show Gm 5=false from rfl,show HK 5=false from rfl,show HJ 5=false from rfl,Ir])))
   simp [B8,p2,Bk,KB,KC,La,Lc,KD,Ld,IQ,IP]
  ·have hs:=fg (r:=⟨6, [106,111,105,110],5⟩) rfl hl
   rw [←hs]
   refine CW.vc Gx [0,1,2,3,4,7,13,28,37,46,56,59] (by kernel_rfl) ?_
   iterate 9 ((try (refine ⟨by first | omega | (simp only [List.length_append,List.length_cons,List.length_nil];omega), ?_⟩));(repeat ((try refine Vc.mk' ?_);simp (maxSteps:=6000000) only [go_sem,HO,H3,Je,Jd,Hy,Hz,F3,Hn,ED,FE,AH,decide_false,Bool.not_true,hI,hE,hm,show Ca 6= [106,111,105,110] from rfl,show Gm 6=false from rfl,show HK 6=false from rfl,show HJ 6=true from rfl,Ir,Ig])))
   simp [B8,p2,Bk,KH,KI,Le,Lf,KJ,Lg,IQ,IP]
  ·have hs:=fg (r:=⟨7, [108,101,97,118,101],5⟩) rfl hl
   rw [←hs]
   refine CW.vc Gx [0,1,2,3,4,7,13,28,37,46,56,59] (by kernel_rfl) ?_
   iterate 9 ((try (refine ⟨by first | omega | (simp only [List.length_append,List.length_cons,List.length_nil];omega), ?_⟩));(repeat ((try refine Vc.mk' ?_);simp (maxSteps:=6000000) only [go_sem,HO,H3,Je,Jd,Hy,Hz,F3,Hn,ED,FE,AH,decide_false,Bool.not_true,hI,hE,hm,show Ca 7= [108,101,97,118,101] from rfl,show Gm 7=false from rfl,show HK 7=false from rfl,show HJ 7=true from rfl,Ir,Ig])))
   simp [B8,p2,Bk,KH,KI,Le,Lf,KJ,Lg,IQ,IP]
  ·have hs:=fg (r:=⟨8, [115,101,110,100],13⟩) rfl hl
   rw [←hs]
   have Ie:Ev e=True:=eq_true ⟨by have:=h.e0;dsimp only at this;omega,by have:=h.e1;dsimp only at this;omega⟩
   have we:Ad .i64 e=e:=wrap64 (by have:=h.e0;dsimp only at this;omega) (by have:=h.e1;dsimp only at this;omega)
   refine CW.vc Gx [0,1,2,3,4,7,13,28,37,46,56,59] (by kernel_rfl) ?_
   iterate 9 ((try (refine ⟨by first | omega | (simp only [List.length_append,List.length_cons,List.length_nil];omega), ?_⟩));(repeat ((try refine Vc.mk' ?_);simp (maxSteps:=6000000) only [go_sem,HO,H3,Je,Jd,Hy,Hz,F3,Hn,ED,FE,AH,decide_true,decide_false,Bool.not_true,hI,hE,hm,show Ca 8= [115,101,110,100] from rfl,show Gm 8=false from rfl,show HK 8=false from rfl,show HJ 8=true from rfl,Ir,Ig,Ie,we])))
   simp [B8,p2,Bk,MA,MB,N9,OA,MC,OB,IQ,IP]
  ·have hs:=fg (r:=⟨9, [114,97,119],19⟩) rfl hl
   rw [←hs]
   have hbl:b.length≤512:=AET hm
   have hx:=EI b
   have hb2:(b.length≤2000)=True:=eq_true (by omega)
   by_cases hb:b= []
   ·subst hb
    refine CW.vc Gx [0,1,2,3,4,7,13,28,37,46,56,59] (by kernel_rfl) ?_
    iterate 9 ((try (refine ⟨by first | omega | (simp only [List.length_append,List.length_cons,List.length_nil];omega), ?_⟩));(repeat ((try refine Vc.mk' ?_);simp (maxSteps:=6000000) only [go_sem,HO,H3,Je,Jd,Hy,Hz,F3,Hn,ED,FE,Ay,AH,decide_true,decide_false,Bool.not_true,hI,hE,hm,show Ca 9= [114,97,119] from rfl,show Gm 9=false from rfl,show HK 9=true from rfl,show HJ 9=false from rfl,Ir,Ip])))
    simp [B8,p2,Bk,J9,KA,MD,ME,I3,MF,IQ,IP,show Pu [] = [45] from rfl]
   ·have hxe:Pu b=CZ b:=by unfold Pu;rw [if_neg hb]
    refine CW.vc Gx [0,1,2,3,4,7,13,28,37,46,56,59] (by kernel_rfl) ?_
    iterate 9 ((try (refine ⟨by first | omega | (simp only [List.length_append,List.length_cons,List.length_nil];omega), ?_⟩));(repeat ((try refine Vc.mk' ?_);simp (maxSteps:=6000000) only [go_sem,HO,H3,Je,Jd,Hy,Hz,y6,F3,Hn,ED,FE,UK,Ay,AH,decide_true,decide_false,Bool.not_true,hI,hE,hm,show Ca 9= [114,97,119] from rfl,show Gm 9=false from rfl,show HK 9=true from rfl,show HJ 9=false from rfl,Ir,Ip,hb,hb2])))
    simp [B8,p2,Bk,J9,KA,MD,ME,I3,MF,IQ,IP,hxe]
  ·have hs:=fg (r:=⟨10, [115,101,116,116,108,101],32⟩) rfl hl
   rw [←hs]
   refine CW.vc Gx [0,1,2,3,4,7,13,28,37,46,56,59] (by kernel_rfl) ?_
   iterate 9 ((try (refine ⟨by first | omega | (simp only [];omega), ?_⟩));(repeat ((try refine Vc.mk' ?_);simp (maxSteps:=6000000) only [go_sem,HO,H3,Hy,Hz,F3,Hn,ED,FE,AH,Bool.not_true,hI,hE,hm,show Ca 10= [115,101,116,116,108,101] from rfl,show Gm 10=true from rfl,It])))
   simp [B8,p2,Bk,I4,I5,KE,KF,I6,KG,IQ,IP]
  ·have hs:=fg (r:=⟨11, [119,104,111],5⟩) rfl hl
   rw [←hs]
   refine CW.vc Gx [0,1,2,3,4,7,13,28,37,46,56,59] (by kernel_rfl) ?_
   iterate 9 ((try (refine ⟨by first | omega | (simp only [List.length_append,List.length_cons,List.length_nil];omega), ?_⟩));(repeat ((try refine Vc.mk' ?_);simp (maxSteps:=6000000) only [go_sem,HO,H3,Je,Jd,Hy,Hz,F3,Hn,ED,FE,AH,decide_false,Bool.not_true,hI,hE,hm,show Ca 11= [119,104,111] from rfl,show Gm 11=false from rfl,show HK 11=false from rfl,show HJ 11=true from rfl,Ir,Ig])))
   simp [B8,p2,Bk,KH,KI,Le,Lf,KJ,Lg,IQ,IP]
  ·have hs:=fg (r:=⟨12, [116,97,98,108,101],1⟩) rfl hl
   rw [←hs]
   refine CW.vc Gx [0,1,2,3,4,7,13,28,37,46,56,59] (by kernel_rfl) ?_
   iterate 9 ((try (refine ⟨by first | omega | (simp only [];omega), ?_⟩));(repeat ((try refine Vc.mk' ?_);simp (maxSteps:=6000000) only [go_sem,HO,H3,Je,Jd,Hy,Hz,F3,Hn,ED,FE,AH,decide_false,Bool.not_true,hI,hE,hm,show Ca 12= [116,97,98,108,101] from rfl,show Gm 12=false from rfl,show HK 12=false from rfl,show HJ 12=false from rfl,Ir])))
   simp [B8,p2,Bk,KB,KC,La,Lc,KD,Ld,IQ,IP]
end Go.Proofs.YthlhnangbinhoaaGreatDoor.Dm
