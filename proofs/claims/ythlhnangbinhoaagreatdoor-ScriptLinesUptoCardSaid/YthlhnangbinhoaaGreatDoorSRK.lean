/- An op may be by the document as by the code; its line is the code's: plain. -/
import Derived.Test.YthlhnangbinhoaaGreatDoorSRM
import Derived.KernelRfl
set_option linter.unusedVariables false
namespace Go.Proofs.YthlhnangbinhoaaGreatDoor.Dm
open Go.Dm
set_option maxHeartbeats 16000000
set_option maxRecDepth 20000
theorem tj {o:Ax}{r:De}(h:FP o.Kind BV=some r):IH o=if Ct o r.fields=true then some (Lib.join (CE r.fields o 6 0 [r.word]) [32]) else none:=by unfold IH;rw [h]
theorem GV {o:Ax}{r:De}(h:FP o.Kind BV=some r):(IH o).isSome=Ct o r.fields:=by
 rw [tj h]
 cases Ct o r.fields <;> rfl
theorem WD {k:Int}(h:¬(1≤k∧k≤12)):FP k BV=none:=by
 have hn:∀n:Int,1≤n→n≤12→¬n=k:=fun n a b c=>h ⟨by omega,by omega⟩
 unfold BV
 simp only [FP,hn 1 (by decide) (by decide),hn 2 (by decide) (by decide),hn 3 (by decide) (by decide),hn 4 (by decide) (by decide),hn 5 (by decide) (by decide),hn 6 (by decide) (by decide),hn 7 (by decide) (by decide),hn 8 (by decide) (by decide),hn 9 (by decide) (by decide),hn 10 (by decide) (by decide),hn 11 (by decide) (by decide),hn 12 (by decide) (by decide),if_false]
theorem AAS {r p g e t:Int}{b:List UInt8}:EK ⟨1,r,p,g,e,t,b⟩=Ct ⟨1,r,p,g,e,t,b⟩ 32:=by
 have n0:¬Cc 1= []:=by decide
 have ht:Gw 1=true:=by decide
 have hp:HH 1=false:=by decide
 have hg:HV 1=false:=by decide
 rw [Bool.eq_iff_iff]
 unfold EK
 simp only [n0,ht,hp,hg,Ct,m1,m2,m3,m4,m5,m6,Jb,JI,Jv,KG,JO,J5,Gk,if_true,if_false,Bool.false_eq_true]
 simp
 try simp only [←List.length_eq_zero_iff]
 omega
theorem ABI {r p g e t:Int}{b:List UInt8}:EK ⟨2,r,p,g,e,t,b⟩=Ct ⟨2,r,p,g,e,t,b⟩ 3:=by
 have n0:¬Cc 2= []:=by decide
 have ht:Gw 2=false:=by decide
 have hp:HH 2=true:=by decide
 have hg:HV 2=false:=by decide
 rw [Bool.eq_iff_iff]
 unfold EK
 simp only [n0,ht,hp,hg,Ct,m1,m2,m3,m4,m5,m6,Mm,Mo,O9,PQ,NG,PR,Gk,if_true,if_false,Bool.false_eq_true]
 simp
 try simp only [←List.length_eq_zero_iff]
 omega
theorem zX {r p g e t:Int}{b:List UInt8}:EK ⟨3,r,p,g,e,t,b⟩=Ct ⟨3,r,p,g,e,t,b⟩ 3:=by
 have n0:¬Cc 3= []:=by decide
 have ht:Gw 3=false:=by decide
 have hp:HH 3=true:=by decide
 have hg:HV 3=false:=by decide
 rw [Bool.eq_iff_iff]
 unfold EK
 simp only [n0,ht,hp,hg,Ct,m1,m2,m3,m4,m5,m6,Mm,Mo,O9,PQ,NG,PR,Gk,if_true,if_false,Bool.false_eq_true]
 simp
 try simp only [←List.length_eq_zero_iff]
 omega
theorem ACj {r p g e t:Int}{b:List UInt8}:EK ⟨4,r,p,g,e,t,b⟩=Ct ⟨4,r,p,g,e,t,b⟩ 1:=by
 have n0:¬Cc 4= []:=by decide
 have ht:Gw 4=false:=by decide
 have hp:HH 4=false:=by decide
 have hg:HV 4=false:=by decide
 rw [Bool.eq_iff_iff]
 unfold EK
 simp only [n0,ht,hp,hg,Ct,m1,m2,m3,m4,m5,m6,Jw,J8,L5,L4,KH,Lx,Gk,if_true,if_false,Bool.false_eq_true]
 simp
 try simp only [←List.length_eq_zero_iff]
 omega
theorem z7 {r p g e t:Int}{b:List UInt8}:EK ⟨5,r,p,g,e,t,b⟩=Ct ⟨5,r,p,g,e,t,b⟩ 1:=by
 have n0:¬Cc 5= []:=by decide
 have ht:Gw 5=false:=by decide
 have hp:HH 5=false:=by decide
 have hg:HV 5=false:=by decide
 rw [Bool.eq_iff_iff]
 unfold EK
 simp only [n0,ht,hp,hg,Ct,m1,m2,m3,m4,m5,m6,Jw,J8,L5,L4,KH,Lx,Gk,if_true,if_false,Bool.false_eq_true]
 simp
 try simp only [←List.length_eq_zero_iff]
 omega
theorem ACo {r p g e t:Int}{b:List UInt8}:EK ⟨6,r,p,g,e,t,b⟩=Ct ⟨6,r,p,g,e,t,b⟩ 5:=by
 have n0:¬Cc 6= []:=by decide
 have ht:Gw 6=false:=by decide
 have hp:HH 6=false:=by decide
 have hg:HV 6=true:=by decide
 rw [Bool.eq_iff_iff]
 unfold EK
 simp only [n0,ht,hp,hg,Ct,m1,m2,m3,m4,m5,m6,Kb,Jz,L6,Lz,Kg,Lt,Gk,if_true,if_false,Bool.false_eq_true]
 simp
 try simp only [←List.length_eq_zero_iff]
 omega
theorem ABE {r p g e t:Int}{b:List UInt8}:EK ⟨7,r,p,g,e,t,b⟩=Ct ⟨7,r,p,g,e,t,b⟩ 5:=by
 have n0:¬Cc 7= []:=by decide
 have ht:Gw 7=false:=by decide
 have hp:HH 7=false:=by decide
 have hg:HV 7=true:=by decide
 rw [Bool.eq_iff_iff]
 unfold EK
 simp only [n0,ht,hp,hg,Ct,m1,m2,m3,m4,m5,m6,Kb,Jz,L6,Lz,Kg,Lt,Gk,if_true,if_false,Bool.false_eq_true]
 simp
 try simp only [←List.length_eq_zero_iff]
 omega
theorem AAH {r p g e t:Int}{b:List UInt8}:EK ⟨8,r,p,g,e,t,b⟩=Ct ⟨8,r,p,g,e,t,b⟩ 13:=by
 have n0:¬Cc 8= []:=by decide
 have ht:Gw 8=false:=by decide
 have hp:HH 8=false:=by decide
 have hg:HV 8=true:=by decide
 rw [Bool.eq_iff_iff]
 unfold EK
 simp only [n0,ht,hp,hg,Ct,m1,m2,m3,m4,m5,m6,MU,MD,Oi,Oq,MI,OD,Gk,if_true,if_false,Bool.false_eq_true]
 simp
 try simp only [←List.length_eq_zero_iff]
 omega
theorem tC {r p g e t:Int}{b:List UInt8}:EK ⟨9,r,p,g,e,t,b⟩=Ct ⟨9,r,p,g,e,t,b⟩ 19:=by
 have n0:¬Cc 9= []:=by decide
 have ht:Gw 9=false:=by decide
 have hp:HH 9=true:=by decide
 have hg:HV 9=false:=by decide
 rw [Bool.eq_iff_iff]
 unfold EK
 simp only [n0,ht,hp,hg,Ct,m1,m2,m3,m4,m5,m6,Kt,Kk,MW,Mb,Jd,MV,Gk,if_true,if_false,Bool.false_eq_true]
 simp
 try simp only [←List.length_eq_zero_iff]
 omega
theorem xL {r p g e t:Int}{b:List UInt8}:EK ⟨10,r,p,g,e,t,b⟩=Ct ⟨10,r,p,g,e,t,b⟩ 32:=by
 have n0:¬Cc 10= []:=by decide
 have ht:Gw 10=true:=by decide
 have hp:HH 10=false:=by decide
 have hg:HV 10=false:=by decide
 rw [Bool.eq_iff_iff]
 unfold EK
 simp only [n0,ht,hp,hg,Ct,m1,m2,m3,m4,m5,m6,Jb,JI,Jv,KG,JO,J5,Gk,if_true,if_false,Bool.false_eq_true]
 simp
 try simp only [←List.length_eq_zero_iff]
 omega
theorem wM {r p g e t:Int}{b:List UInt8}:EK ⟨11,r,p,g,e,t,b⟩=Ct ⟨11,r,p,g,e,t,b⟩ 5:=by
 have n0:¬Cc 11= []:=by decide
 have ht:Gw 11=false:=by decide
 have hp:HH 11=false:=by decide
 have hg:HV 11=true:=by decide
 rw [Bool.eq_iff_iff]
 unfold EK
 simp only [n0,ht,hp,hg,Ct,m1,m2,m3,m4,m5,m6,Kb,Jz,L6,Lz,Kg,Lt,Gk,if_true,if_false,Bool.false_eq_true]
 simp
 try simp only [←List.length_eq_zero_iff]
 omega
theorem yE {r p g e t:Int}{b:List UInt8}:EK ⟨12,r,p,g,e,t,b⟩=Ct ⟨12,r,p,g,e,t,b⟩ 1:=by
 have n0:¬Cc 12= []:=by decide
 have ht:Gw 12=false:=by decide
 have hp:HH 12=false:=by decide
 have hg:HV 12=false:=by decide
 rw [Bool.eq_iff_iff]
 unfold EK
 simp only [n0,ht,hp,hg,Ct,m1,m2,m3,m4,m5,m6,Jw,J8,L5,L4,KH,Lx,Gk,if_true,if_false,Bool.false_eq_true]
 simp
 try simp only [←List.length_eq_zero_iff]
 omega
theorem iz {k:Int}(h:1≤k∧k≤12):k=1∨k=2∨k=3∨k=4∨k=5∨k=6∨k=7∨k=8∨k=9∨k=10∨k=11∨k=12:=by omega
theorem qz (o:Ax):EK o=(IH o).isSome:=by
 by_cases h:1≤o.Kind∧o.Kind≤12
 ·obtain ⟨k,r,p,g,e,t,b⟩:=o
  rcases iz h with h | h | h | h | h | h | h | h | h | h | h | h <;> dsimp only at h <;> subst h
  ·rw [AAS];exact (GV (o:=⟨1,r,p,g,e,t,b⟩) (r:=at' BV 0) rfl).symm
  ·rw [ABI];exact (GV (o:=⟨2,r,p,g,e,t,b⟩) (r:=at' BV 1) rfl).symm
  ·rw [zX];exact (GV (o:=⟨3,r,p,g,e,t,b⟩) (r:=at' BV 2) rfl).symm
  ·rw [ACj];exact (GV (o:=⟨4,r,p,g,e,t,b⟩) (r:=at' BV 3) rfl).symm
  ·rw [z7];exact (GV (o:=⟨5,r,p,g,e,t,b⟩) (r:=at' BV 4) rfl).symm
  ·rw [ACo];exact (GV (o:=⟨6,r,p,g,e,t,b⟩) (r:=at' BV 5) rfl).symm
  ·rw [ABE];exact (GV (o:=⟨7,r,p,g,e,t,b⟩) (r:=at' BV 6) rfl).symm
  ·rw [AAH];exact (GV (o:=⟨8,r,p,g,e,t,b⟩) (r:=at' BV 7) rfl).symm
  ·rw [tC];exact (GV (o:=⟨9,r,p,g,e,t,b⟩) (r:=at' BV 8) rfl).symm
  ·rw [xL];exact (GV (o:=⟨10,r,p,g,e,t,b⟩) (r:=at' BV 9) rfl).symm
  ·rw [wM];exact (GV (o:=⟨11,r,p,g,e,t,b⟩) (r:=at' BV 10) rfl).symm
  ·rw [yE];exact (GV (o:=⟨12,r,p,g,e,t,b⟩) (r:=at' BV 11) rfl).symm
 ·have e1:Cc o.Kind= []:=by unfold Cc;rw [if_neg h]
  unfold EK IH
  rw [if_pos e1,WD h];rfl
end Go.Proofs.YthlhnangbinhoaaGreatDoor.Dm
