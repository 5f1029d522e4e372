/- world.Check. -/
import Derived.Test.YthlhnangbinhoaaGreatDoorCNW
set_option linter.unusedSimpArgs false
set_option linter.unusedVariables false
namespace Go.Proofs.YthlhnangbinhoaaGreatDoor.Dm
open Go.Dm
set_option maxHeartbeats 64000000
set_option maxRecDepth 20000
noncomputable def GN2:FuncId→Bz:=Cx uc 87 NT
theorem TF:DU Tryz.prog tt.get GN2:=L5.add nv
theorem sy:GN2 87=NT:=rfl
def Gb (S:CR)(r k u:Value):Option BI:=some (.cells true 0 [.int .i64 S.W, .int .i64 S.A, .int .i64 S.T, .int .i64 S.L,r,k,u])
def D8 (l:List CI):List Int:=l.map (·.Self)
def Lz:Bz:= .det (fun args hp _=>match args with | [v]=> ∃S,Sw hp v S | _=>False) (fun args hp top=>match args with | [v]=>Hs (D8 (Mr hp v).R) (Mr hp v).K (Mr hp v).U (Mr hp v).L top | _=>(undef, [],top))
def p9 (hp:Hp)(top:Nat)(S:CR)(r k u:Value)(i:Nat):SS:=⟨[(1, .pointer (some ⟨top,0,none⟩),true),(4,AA (top+1) (D8 (S.R.take i)),true),(8,r,true),(9, .int .i64 (S.R.length:Int),true),(10, .int .i64 (i:Int),true)],hp.A6 [(top,Gb S r k u),(top+1,AE Ad (D8 (S.R.take i)))],top+2⟩
theorem Ny (R:List Int)(l:List Ap)(rl:List BX)(late:Int) :
  (SY R l rl late≠0∧∀top,Hs R l rl late top=(.tuple ⟨[.pointer none, .int .i64 (SY R l rl late)]⟩, [],top))∨
  (SY R l rl late=0∧∃m,∀top,Hs R l rl late top=(.tuple ⟨[.pointer (some ⟨top,0,none⟩), .int .i64 0]⟩,Ml top (Np R l m rl.length late),top+8)):=by
 unfold Hs SY
 by_cases c1:Gr.IC R l=0
 ·rw [if_neg (by simp [c1])]
  by_cases c2:late < 1∨64 < late
  ·left
   rw [if_pos c2]
   exact ⟨by decide,fun top=>by rw [if_pos (.inr c2)]⟩
  ·rw [if_neg c2]
   have c3:¬(¬Gr.IC R l=0∨late < 1∨64 < late):=by rintro (h | h);exact h c1;exact c2 h
   simp only [if_neg c3]
   cases hx:Fa.I7 rl with
   |error p=>exact .inl ⟨Fa.PI hx,fun _=>rfl⟩
   |ok m=>exact .inr ⟨rfl,m,fun _=>rfl⟩
 ·left
  rw [if_pos c1]
  exact ⟨c1,fun top=>by rw [if_pos (.inl c1)]⟩
theorem iR {l:List CI}{i:Nat}(h:i < l.length):D8 (l.take (i+1))=D8 (l.take i) ++ [(at' l i).Self]:=by
 unfold D8;rw [DV h,List.map_append];rfl
theorem mM:BR Tryz.prog 65 Lz:=by
 refine .Jq WI ?_
 intro args hp top hpre hcl hsc
 match args,hpre with
 | [v],⟨S,hS⟩=>
 have hd:=hS.d
 obtain ⟨r,k,u,rfl,h1,h2,h3⟩:=hS.ex
 have l1:=hS.rl
 have s1:=h1.low hcl
 have s2:=h2.low hcl
 have s3:=h3.low hcl
 simp only [hd]
 refine Ae.Bn Bu WI rfl 30 rfl [.tmp 2, .tmp 3] rfl (show 1≤30 by decide) ?_
 refine CW.vc TF [0,1,2,3,4,6,8,9,10,11] (by kernel_rfl) ?_
 (repeat ((try refine Vc.mk' ?_);simp (maxSteps:=6000000) only [go_sem,Eg h1,Ed h1,F2 h1,Fy h1,Fv h1,D0 h1,D1 h1,D3 h1,D6 h1,D4 h1,D2 h1,h1.P,h1.oc,h1.cl,h1.rd,h1.ref,Aj s1,AZ s1,AY s1,AX h1 s1 C2]))
 refine CW.D9 (p9 hp top S r k u) (fun i=>i≤S.R.length) (fun i=>S.R.length - i) 0 (Nat.zero_le _) ?_ ?_
 ·exact (by refine Bj.mk' [top,top+1] hcl (by simp) (by simp) rfl (Ac ?_) ?_ ?_ <;> simp [Sc.Av (fun j hj=>AB hj) s1,J1,OG,Gb,D8,Sc.Av (fun j hj=>AB hj) s2,Sc.Av (fun j hj=>AB hj) s3])
 ·intro i hi
  by_cases hlt:i < S.R.length
  ·have ii:((i:Int) < (S.R.length:Int)):=by omega
   have kk:Ar .i64 ((i:Int)+1)=((i+1:Nat):Int):=B0 hlt (by omega)
   have hap:∀ {h':Hp} {q t:Nat},h' (top+1)=AE Ad (D8 (S.R.take i))→h' q=some (.cells true 1 [.int .i64 (at' S.R i).Self])→AR tt.get h' t [68,68] (AA (top+1) (D8 (S.R.take i))) (.slice (some ⟨q,0,none⟩) 1 1)=some (AA t (D8 (S.R.take (i+1))),Ck (top+1) (D8 (S.R.take i)) t (AE Ad (D8 (S.R.take (i+1)))),t+1):=fun {h'} {q} {t} a1 a2=>by
    have e3:cellsOf (h' q)=Ad.enc (at' S.R i).Self:=by rw [a2];rfl
    have hl:(D8 (S.R.take i)).length≤1000000:=by unfold D8;rw [List.length_map,List.length_take];omega
    have:=TP (hp:=h') (b:=top+1) (top:=t) (k:=q) a1 (by rw [e3];exact a2) (by rw [e3,Ad.h]) (Dc (by omega) (by decide))
    rwa [e3,Ad.h,←iR hlt] at this
   refine CW.vc TF [0,1,2,3,4,6,8,9,10,11] (by kernel_rfl) ?_
   (repeat ((try refine Vc.mk' ?_);simp (maxSteps:=6000000) only [go_sem,p9,Gb,ii,hlt,Eg h1,Ed h1,F2 h1,Fy h1,Fv h1,D0 h1,D1 h1,D3 h1,D6 h1,D4 h1,D2 h1,h1.P,h1.oc,h1.cl,h1.rd,h1.ref,Aj s1,AZ s1,AY s1,AX h1 s1 C2,hap,kk]))
   refine .mk (i+1) hlt (by omega) ((by refine Bj.mk' [top,top+4] hcl (by simp) (by simp) rfl (Ac ?_) ?_ ?_ <;> simp [Sc.Av (fun j hj=>AB hj) s1,Gb,Sc.Av (fun j hj=>AB hj) s2,Sc.Av (fun j hj=>AB hj) s3]))
  ·have hk2:i=S.R.length:=by omega
   subst hk2
   have kR:∀ {h':Hp},h' (top+1)=AE Ad (D8 S.R)→(∃R,BJ Ad h' (AA (top+1) (D8 S.R)) R∧(R= []→AA (top+1) (D8 S.R)= .slice none 0 0))=True:=fun {h'} e=>eq_true ⟨D8 S.R,BJ.IP e (by unfold D8;rw [List.length_map];omega),fun h=>by rw [h];rfl⟩
   have rR:∀ {h':Hp},h' (top+1)=AE Ad (D8 S.R)→Ad.rd h' (AA (top+1) (D8 S.R))=D8 S.R:=fun {h'} e=>Mz e (by unfold D8;rw [List.length_map];omega)
   have k2:∀ {h':Hp},Bc top [] h' hp→G6 Af h' k=True:=fun {h'} hk=>(h2.BU s2 hk).P
   have k3:∀ {h':Hp},Bc top [] h' hp→G6 AJ h' u=True:=fun {h'} hk=>(h3.BU s3 hk).P
   have r2:∀ {h':Hp},Bc top [] h' hp→Af.rd h' k=S.K:=fun {h'} hk=>(h2.BU s2 hk).rd
   have r3:∀ {h':Hp},Bc top [] h' hp→AJ.rd h' u=S.U:=fun {h'} hk=>(h3.BU s3 hk).rd
   rcases Ny (D8 S.R) S.K S.U S.L with ⟨c1,c2⟩ | ⟨c1,m,c2⟩
   ·refine CW.vc TF [0,1,2,3,4,6,8,9,10,11] (by kernel_rfl) ?_
    (repeat ((try refine Vc.mk' ?_);simp (maxSteps:=6000000) only [go_sem,p9,Gb,Int.lt_irrefl,decide_false,sy,NT,List.take_length,kR,rR,k2,k3,r2,r3,c2,intOf_int,Eg h1,Ed h1,F2 h1,Fy h1,Fv h1,D0 h1,D1 h1,D3 h1,D6 h1,D4 h1,D2 h1,h1.P,h1.oc,h1.cl,h1.rd,h1.ref,Aj s1,AZ s1,AY s1,AX h1 s1 C2]))
    (refine ⟨[],by simp,by simp,by simp, ?_, ?_, ?_⟩ <;> simp [])
   ·refine CW.vc TF [0,1,2,3,4,6,8,9,10,11] (by kernel_rfl) ?_
    (repeat ((try refine Vc.mk' ?_);simp (maxSteps:=6000000) only [go_sem,p9,Gb,Int.lt_irrefl,decide_false,sy,NT,List.take_length,kR,rR,k2,k3,r2,r3,c2,intOf_int,Ml,Eg h1,Ed h1,F2 h1,Fy h1,Fv h1,D0 h1,D1 h1,D3 h1,D6 h1,D4 h1,D2 h1,h1.P,h1.oc,h1.cl,h1.rd,h1.ref,Aj s1,AZ s1,AY s1,AX h1 s1 C2]))
    (refine ⟨[top+2,top+3,top+4,top+5,top+6,top+7,top+8,top+9],by simp,by simp,by simp, ?_, ?_, ?_⟩ <;> simp [Ml,LF,Np,Pt,Fa.JQ])
def tU (w:Int):Bool:= !decide (w < 8) && !decide (256 < w) && decide (Cu .and .i64 w (Ar .i64 (w - 1))=0)
def Nu:Bz:= .pure (fun args _=>match args with | [.int .i64 _]=>True | _=>False) (fun args _=>match args with | [x]=> .bool (tU (intOf x)) | _=>undef)
theorem se:BR Tryz.prog 64 Nu:=by
 refine .LN VZ (fun args hp h=> ?_) ?_
 ·match args,h with
  | [.int .i64 w],_=>rfl
 intro args hp hpre top hcl hsc
 match args,hpre with
 | [.int .i64 w],_=>
 refine Ae.Bn Bu VZ rfl 16 rfl [.tmp 2] rfl (show 1≤16 by decide) ?_
 refine CW.vc TF [0,2] (by kernel_rfl) ?_
 (repeat ((try refine Vc.mk' ?_);simp (maxSteps:=6000000) only [go_sem]))
 rfl
noncomputable def GN3:FuncId→Bz:=Cx (Cx GN2 65 Lz) 64 Nu
theorem N3:DU Tryz.prog tt.get GN3:=(TF.add mM).add se
theorem tZ:GN3 65=Lz:=rfl
theorem tQ:GN3 64=Nu:=rfl
abbrev wo:=Hl×Nat
def bump (x:wo)(a:Int):wo:=(NW x.1 a (Ar .i64 ((LP x.1 a).getD default+1)) x.2,WS x.1 a x.2)
def Ms (x:wo)(l:Ap):wo:=bump (bump x l.A) l.B
def TK (x:wo)(l:Ap):Bool:=decide (16 < (LP x.1 l.A).getD default) || decide (16 < (LP x.1 l.B).getD default)
def Sj:wo→List Ap→Int
 |_, []=>0
 |x,l :: ls=>if TK (Ms x l) l=true then 3 else Sj (Ms x l) ls
def ZK (c:CI):Bool:=decide (c.Self < 1) || decide (24 < c.Self) || decide (c.Claim < 0) || decide (1024 < c.Claim)
def sj (S:CR):Bool:= !tU S.W || decide (S.A < 1) || decide (64 < S.A) || decide (S.T < 0) || decide (64 < S.T)
def Fl (S:CR):Int:=if sj S=true then 2 else if S.R.any ZK=true then 2 else if SY (D8 S.R) S.K S.U S.L≠0 then SY (D8 S.R) S.K S.U S.L else Sj ([],0) S.K
def ja (hp:Hp)(top:Nat)(S:CR)(r k u:Value)(i:Nat):SS:=⟨[(1, .pointer (some ⟨top,0,none⟩),true),(35,r,true),(36, .int .i64 (S.R.length:Int),true),(37, .int .i64 (i:Int),true)],hp.A6 [(top,Gb S r k u)],top+1⟩
def oZ (hp:Hp)(top:Nat)(S:CR)(r k u:Value)(x:wo×Nat):SS:=⟨[(7, .map (some (top+1)),true),(70,k,true),(71, .int .i64 (S.K.length:Int),true),(72, .int .i64 (x.2:Int),true)],hp.A6 [(top,Gb S r k u),(top+1,some (.map (EO x.1.1) x.1.2))],top+2⟩
theorem gw:BR Tryz.prog 23 (LG (fun _=>True) Fl):=by
 refine .LN VA (fun args hp h=> ?_) ?_
 ·match args,h with
  | [v],_=>rfl
 intro args hp hpre top hcl hsc
 match args,hpre with
 | [v],⟨⟨S,hS,_⟩,hv⟩=>
 have ht5:=FE hcl hv
 have hd:=hS.d
 have hSv:=hS
 obtain ⟨r,k,u,rfl,h1,h2,h3⟩:=hS.ex
 have l1:=hS.rl
 have l2:=hS.kl
 have s1:=h1.low hcl
 have s2:=h2.low hcl
 have s3:=h3.low hcl
 have p1:G6 AL hp r=True:=h1.P
 simp only [hd]
 have kS:∀ {h':Hp},Bc top [] h' hp→(∃S',Sw h' (.agg ⟨[.int .i64 S.W, .int .i64 S.A, .int .i64 S.T, .int .i64 S.L,r,k,u]⟩) S')=True:=fun {h'} hk=>eq_true ⟨S,⟨r,k,u,rfl,h1.BU s1 hk,h2.BU s2 hk,h3.BU s3 hk⟩,hSv.rl,hSv.kl,hSv.ul⟩
 have kD:∀ {h':Hp},Bc top [] h' hp→Mr h' (.agg ⟨[.int .i64 S.W, .int .i64 S.A, .int .i64 S.T, .int .i64 S.L,r,k,u]⟩)=S:=fun {h'} hk=>Sw.d ⟨⟨r,k,u,rfl,h1.BU s1 hk,h2.BU s2 hk,h3.BU s3 hk⟩,hSv.rl,hSv.kl,hSv.ul⟩
 refine Ae.Bn Bu VA rfl 99 rfl [.tmp 2] rfl (show 1≤99 by decide) ?_
 cases hb:sj S with
 |true=>
  have e:Fl S=2:=by unfold Fl;rw [if_pos hb]
  rw [e]
  have hb2:=hb
  unfold sj at hb2
  refine CW.vc N3 [0,1,2,4,6,7,9,33,35,36,37,38,58,66,70,71,72,73,97] (by kernel_rfl) ?_
  (repeat ((try refine Vc.mk' ?_);simp (maxSteps:=6000000) only [go_sem,tQ,Nu,intOf_int,hb2]))
 |false=>
 have hb2:=hb
 unfold sj at hb2
 refine CW.vc N3 [0,1,2,4,6,7,9,33,35,36,37,38,58,66,70,71,72,73,97] (by kernel_rfl) ?_
 (repeat ((try refine Vc.mk' ?_);simp (maxSteps:=6000000) only [go_sem,tQ,Nu,intOf_int,hb2,Eg h1,Ed h1,F2 h1,Fy h1,Fv h1,D0 h1,D1 h1,D3 h1,D6 h1,D4 h1,D2 h1,h1.P,h1.oc,h1.cl,h1.rd,h1.ref,Aj s1,AZ s1,AY s1,AX h1 s1 C2]))
 refine CW.D9 (ja hp top S r k u) (fun i=>i≤S.R.length∧(S.R.take i).any ZK=false) (fun i=>S.R.length - i) 0 ⟨Nat.zero_le _,rfl⟩ ?_ ?_
 ·exact (by refine Bj.mk' [top] hcl (by simp) (by simp) rfl (Ac ?_) ?_ ?_ <;> simp [Sc.Av (fun j hj=>AB hj) s1,Gb,Sc.Av (fun j hj=>AB hj) s2,Sc.Av (fun j hj=>AB hj) s3])
 ·rintro i ⟨hi,hall⟩
  by_cases hlt:i < S.R.length
  ·have ii:((i:Int) < (S.R.length:Int)):=by omega
   have kk:Ar .i64 ((i:Int)+1)=((i+1:Nat):Int):=B0 hlt (by omega)
   have hnx:(S.R.take (i+1)).any ZK=ZK (at' S.R i):=by rw [DV hlt,List.any_append,hall];simp
   cases hc:ZK (at' S.R i) with
   |true=>
    have e:Fl S=2:=by
     unfold Fl;rw [if_neg (by simp [hb]),if_pos]
     rw [List.any_eq_true]
     exact ⟨at' S.R i,by rw [Cb _ _ hlt];exact List.getElem_mem hlt,hc⟩
    rw [e]
    have hc2:=hc
    unfold ZK at hc2
    refine CW.vc N3 [0,1,2,4,6,7,9,33,35,36,37,38,58,66,70,71,72,73,97] (by kernel_rfl) ?_
    (repeat ((try refine Vc.mk' ?_);simp (maxSteps:=6000000) only [go_sem,ja,Gb,ii,hlt,Eg h1,Ed h1,F2 h1,Fy h1,Fv h1,D0 h1,D1 h1,D3 h1,D6 h1,D4 h1,D2 h1,h1.P,h1.oc,h1.cl,h1.rd,h1.ref,Aj s1,AZ s1,AY s1,AX h1 s1 C2,hc2]))
   |false=>
    have hc2:=hc
    unfold ZK at hc2
    refine CW.vc N3 [0,1,2,4,6,7,9,33,35,36,37,38,58,66,70,71,72,73,97] (by kernel_rfl) ?_
    (repeat ((try refine Vc.mk' ?_);simp (maxSteps:=6000000) only [go_sem,ja,Gb,ii,hlt,Eg h1,Ed h1,F2 h1,Fy h1,Fv h1,D0 h1,D1 h1,D3 h1,D6 h1,D4 h1,D2 h1,h1.P,h1.oc,h1.cl,h1.rd,h1.ref,Aj s1,AZ s1,AY s1,AX h1 s1 C2,hc2,kk]))
    refine .mk (i+1) ⟨hlt,by rw [hnx];exact hc⟩ (by omega) ((by refine Bj.mk' [top] hcl (by simp) (by simp) rfl (Ac ?_) ?_ ?_ <;> simp [Sc.Av (fun j hj=>AB hj) s1,Gb,Sc.Av (fun j hj=>AB hj) s2,Sc.Av (fun j hj=>AB hj) s3]))
  ·have hk2:i=S.R.length:=by omega
   subst hk2
   rw [List.take_length] at hall
   rcases Ny (D8 S.R) S.K S.U S.L with ⟨c1,c2⟩ | ⟨c1,m,c2⟩
   ·have e:Fl S=SY (D8 S.R) S.K S.U S.L:=by unfold Fl;rw [if_neg (by simp [hb]),if_neg (by simp [hall]),if_pos c1]
    rw [e]
    refine CW.vc N3 [0,1,2,4,6,7,9,33,35,36,37,38,58,66,70,71,72,73,97] (by kernel_rfl) ?_
    (repeat ((try refine Vc.mk' ?_);simp (maxSteps:=6000000) only [go_sem,ja,Gb,Int.lt_irrefl,decide_false,tZ,Lz,kS,kD,c1,c2]))
   ·have e:Fl S=Sj ([],0) S.K:=by unfold Fl;rw [if_neg (by simp [hb]),if_neg (by simp [hall]),if_neg (by simp [c1])]
    rw [e]
    refine CW.vc N3 [0,1,2,4,6,7,9,33,35,36,37,38,58,66,70,71,72,73,97] (by kernel_rfl) ?_
    (repeat ((try refine Vc.mk' ?_);simp (maxSteps:=6000000) only [go_sem,ja,Gb,Int.lt_irrefl,decide_false,tZ,Lz,kS,kD,c1,c2,Ml,BM h2,BL h2,Bq h2,Bp h2,Bo h2,BD h2,BC h2,BB h2,BG h2,BF h2,BE h2,h2.P,h2.oc,h2.cl,h2.rd,h2.ref,Aj s2,AZ s2,AY s2,AX h2 s2 BZ]))
    refine CW.D9 (oZ hp top S r k u) (fun x=>x.2≤S.K.length∧Sj ([],0) S.K=Sj x.1 (S.K.drop x.2)) (fun x=>S.K.length - x.2) (([],0),0) ⟨Nat.zero_le _,rfl⟩ ?_ ?_
    ·exact (by refine Bj.mk' [top,top+9] hcl (by simp) (by simp) rfl (Ac ?_) ?_ ?_ <;> simp [Sc.Av (fun j hj=>AB hj) s1,Gb,Sc.Av (fun j hj=>AB hj) s2,Sc.Av (fun j hj=>AB hj) s3,show EO [] = [] from rfl])
    ·rintro ⟨x,i⟩ ⟨hi,hrun⟩
     replace hi:i≤S.K.length:=hi
     replace hrun:Sj ([],0) S.K=Sj x (S.K.drop i):=hrun
     by_cases hlt:i < S.K.length
     ·have ii:((i:Int) < (S.K.length:Int)):=by omega
      have kk:Ar .i64 ((i:Int)+1)=((i+1:Nat):Int):=B0 hlt (by omega)
      rw [QK hlt] at hrun
      cases hc:TK (Ms x (at' S.K i)) (at' S.K i) with
      |true=>
       have e:Sj ([],0) S.K=3:=by rw [hrun];show (if TK (Ms x (at' S.K i)) (at' S.K i)=true then (3:Int) else _)=_;rw [if_pos hc]
       rw [e]
       unfold TK Ms bump at hc
       refine CW.vc N3 [0,1,2,4,6,7,9,33,35,36,37,38,58,66,70,71,72,73,97] (by kernel_rfl) ?_
       (repeat ((try refine Vc.mk' ?_);simp (maxSteps:=6000000) only [go_sem,oZ,Gb,ii,hlt,BM h2,BL h2,Bq h2,Bp h2,Bo h2,BD h2,BC h2,BB h2,BG h2,BF h2,BE h2,h2.P,h2.oc,h2.cl,h2.rd,h2.ref,Aj s2,AZ s2,AY s2,AX h2 s2 BZ,hc,kk]))
      |false=>
       have e:Sj ([],0) S.K=Sj (Ms x (at' S.K i)) (S.K.drop (i+1)):=by rw [hrun];show (if TK (Ms x (at' S.K i)) (at' S.K i)=true then (3:Int) else _)=_;rw [if_neg (by simp [hc])]
       have hc2:=hc
       unfold TK Ms bump at hc2
       refine CW.vc N3 [0,1,2,4,6,7,9,33,35,36,37,38,58,66,70,71,72,73,97] (by kernel_rfl) ?_
       (repeat ((try refine Vc.mk' ?_);simp (maxSteps:=6000000) only [go_sem,oZ,Gb,ii,hlt,BM h2,BL h2,Bq h2,Bp h2,Bo h2,BD h2,BC h2,BB h2,BG h2,BF h2,BE h2,h2.P,h2.oc,h2.cl,h2.rd,h2.ref,Aj s2,AZ s2,AY s2,AX h2 s2 BZ,hc2,kk]))
       refine .mk (Ms x (at' S.K i),i+1) ⟨hlt,e⟩ (by show S.K.length - (i+1) < S.K.length - i;omega) ((by refine Bj.mk' [top,top+1] hcl (by simp) (by simp) rfl (Ac ?_) ?_ ?_ <;> simp [Sc.Av (fun j hj=>AB hj) s1,Gb,Sc.Av (fun j hj=>AB hj) s2,Sc.Av (fun j hj=>AB hj) s3,Ms,bump]))
     ·have hk2:i=S.K.length:=by omega
      subst hk2
      rw [hrun,List.drop_length]
      refine CW.vc N3 [0,1,2,4,6,7,9,33,35,36,37,38,58,66,70,71,72,73,97] (by kernel_rfl) ?_
      (repeat ((try refine Vc.mk' ?_);simp (maxSteps:=6000000) only [go_sem,oZ,Gb,Int.lt_irrefl,decide_false]))
      rfl
end Go.Proofs.YthlhnangbinhoaaGreatDoor.Dm
