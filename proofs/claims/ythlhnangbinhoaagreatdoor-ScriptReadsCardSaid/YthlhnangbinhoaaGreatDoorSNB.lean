/- The document's lines, ranks and numbers, walked. -/
import Derived.Test.YthlhnangbinhoaaGreatDoorSRF
import Derived.Test.YthlhnangbinhoaaGreatDoorCNC
import Derived.Test.YthlhnangbinhoaaGreatDoorSVQ
set_option linter.unusedVariables false
namespace Go.Proofs.YthlhnangbinhoaaGreatDoor.Dm
open Go.Dm
set_option maxHeartbeats 16000000
set_option maxRecDepth 20000
def li:List UInt8→Ec×List UInt8
 | []=>([], [])
 |c :: r=>if c=10 then([] :: (li r).1,(li r).2)else match(li r).1 with
  | []=>([],c :: (li r).2)
  |l :: ls=>((c :: l) :: ls,(li r).2)
theorem bR {c:UInt8}:∀x:List UInt8,li (x ++ [c])=if c=10 then ((li x).1 ++ [(li x).2], []) else ((li x).1,(li x).2 ++ [c])
 | []=>by
  by_cases h:c=10 <;> simp [li,h]
 |a :: x=>by
  have ih:=bR (c:=c) x
  rw [List.cons_append]
  unfold li
  rw [ih]
  by_cases h:c=10
  ·rw [if_pos h,if_pos h]
   by_cases ha:a=10
   ·rw [if_pos ha,if_pos ha];rfl
   ·rw [if_neg ha,if_neg ha]
    cases hq:(li x).1 with
    |nil=>rfl
    |cons l ls=>rfl
  ·rw [if_neg h,if_neg h]
   by_cases ha:a=10
   ·rw [if_pos ha,if_pos ha]
   ·rw [if_neg ha,if_neg ha]
    cases hq:(li x).1 with
    |nil=>rfl
    |cons l ls=>rfl
def FT (s:List UInt8):Nat→Ec×Nat
 |0=>([],0)
 |i+1=>if at' s i=10 then ((FT s i).1 ++ [(s.drop (FT s i).2).take (i - (FT s i).2)],i+1) else FT s i
theorem M9 {s:List UInt8}:∀i,i≤s.length→(FT s i).2≤i∧(FT s i).1.length≤i∧li (s.take i)=((FT s i).1,(s.drop (FT s i).2).take (i - (FT s i).2))
 |0,_=>by simp [FT,li]
 |i+1,h=>by
  obtain ⟨h1,h2,h3⟩:=M9 (s:=s) i (by omega)
  have ht:s.take (i+1)=s.take i ++ [at' s i]:=Bj (by omega)
  rw [ht,bR,h3]
  by_cases c:at' s i=10
  ·have e:FT s (i+1)=((FT s i).1 ++ [(s.drop (FT s i).2).take (i - (FT s i).2)],i+1):=by rw [FT,if_pos c]
   rw [if_pos c,e]
   refine ⟨Nat.le_refl _,by show ((FT s i).1 ++ [(s.drop (FT s i).2).take (i - (FT s i).2)]).length≤i+1;rw [List.length_append];simp only [List.length_cons,List.length_nil];omega,by simp⟩
  ·have e:FT s (i+1)=FT s i:=by rw [FT,if_neg c]
   rw [if_neg c,e]
   refine ⟨by omega,by omega, ?_⟩
   have hx:i - (FT s i).2 < (s.drop (FT s i).2).length:=by rw [List.length_drop];omega
   rw [show i+1 - (FT s i).2=(i - (FT s i).2)+1 from by omega,Bj hx]
   have:at' (s.drop (FT s i).2) (i - (FT s i).2)=at' s i:=by
    rw [BS _ _ hx,BS _ _ (by omega),List.getElem_drop]
    congr 1
    omega
   rw [this]
theorem Yn (s:List UInt8):li s=((FT s s.length).1,s.drop (FT s s.length).2):=by
 obtain ⟨_,_,h3⟩:=M9 (s:=s) s.length (Nat.le_refl _)
 rw [List.take_length] at h3
 rw [h3]
 congr 1
 rw [List.take_of_length_le (by rw [List.length_drop];exact Nat.le_refl _)]
theorem XP {h':Hp}{s:List UInt8}{f:Nat}(h1:f≤s.length):B5 tt.get h' 9 (.string ⟨⟨s⟩⟩) (some (.int .i64 (f:Int))) none=(.string ⟨⟨s.drop f⟩⟩,True):=by
 have:=JJ (h':=h') (s:=s) (f:=f) (i:=s.length) h1 (Nat.le_refl _)
 rw [List.take_of_length_le (show (s.drop f).length≤s.length - f by rw [List.length_drop];exact Nat.le_refl _)] at this
 unfold B5 at this ⊢
 simp only [F7] at this ⊢
 simpa [Bm,Dg] using this
def Zy:BE:= .det (fun args _ _=>match args with | [.string ⟨⟨s⟩⟩]=>s.length≤16000000 | _=>False) (fun args _ top=>match args with | [s]=>(.tuple ⟨[AA top (li (strOf s)).1, .string ⟨⟨(li (strOf s)).2⟩⟩]⟩, [(top,AD AB (li (strOf s)).1)],top+1) | _=>(undef, [],top))
def qZ (hp:Hp)(top:Nat)(s:List UInt8)(i:Nat):SS:=⟨[(0, .string ⟨⟨s⟩⟩,true),(4,AA top (FT s i).1,true),(5, .int .i64 ((FT s i).2:Int),true),(6, .int .i64 (i:Int),true)],hp.Ac [(top,AD AB (FT s i).1)],top+1⟩
theorem AAn:Ag Tryz.prog 50 Zy:=by
 refine .Eh aX ?_
 intro args hp top hpre hcl hsc
 match args,hpre with
 | [.string ⟨⟨s⟩⟩],hs=>
 simp only [AH]
 refine AJ.Af Am aX rfl 30 rfl [.tmp 2, .tmp 3] rfl (show 1≤30 by decide) ?_
 refine CW.vc JW [0,2,3,4,5,6,10,16] (by kernel_rfl) ?_
 (repeat ((try refine Vc.mk' ?_);simp (maxSteps:=6000000) only [go_sem]))
 refine CW.Bc (qZ hp top s) (fun i=>i≤s.length) (fun i=>s.length - i) 0 (Nat.zero_le _) ?_ ?_
 ·exact (by refine Al.mk' [top] hcl (by simp) (by simp) rfl (AF ?_) ?_ ?_ <;> simp [FT,DD,Dp])
 ·intro i hi
  obtain ⟨v1,v2,_⟩:=M9 (s:=s) i hi
  by_cases hlt:i < s.length
  ·have ii:((i:Int) < (s.length:Int))=True:=eq_true (by omega)
   have kk:Ad .i64 ((i:Int)+1)=((i+1:Nat):Int):=Ae hlt (by omega)
   have hc:=Nd hlt
   have sl:=fun (h':Hp)=>JJ (h':=h') (s:=s) v1 hi
   have hap:∀ {h':Hp} {j q t:Nat},h' j=AD AB (FT s i).1→h' q=some (.cells true 1 [.string ⟨⟨(s.drop (FT s i).2).take (i - (FT s i).2)⟩⟩])→AK tt.get h' t [67,67] (AA j (FT s i).1) (.slice (some ⟨q,0,none⟩) 1 1)=some (AA t ((FT s i).1 ++ [(s.drop (FT s i).2).take (i - (FT s i).2)]),Bu j (FT s i).1 t (AD AB ((FT s i).1 ++ [(s.drop (FT s i).2).take (i - (FT s i).2)])),t+1):=fun {h'} {j} {q} {t} a1 a2=>by
    have e3:cellsOf (h' q)=AB.enc ((s.drop (FT s i).2).take (i - (FT s i).2)):=by rw [a2];rfl
    have:=GU (hp:=h') (b:=j) (top:=t) (k:=q) a1 (by rw [e3];exact a2) (by rw [e3,AB.h]) (CO (by omega) (by decide))
    rwa [e3,AB.h] at this
   by_cases c3:at' s i=10
   ·have hq:(Int.ofNat (at' s i).toNat=10)=True:=eq_true (by rw [c3];rfl)
    have e:FT s (i+1)=((FT s i).1 ++ [(s.drop (FT s i).2).take (i - (FT s i).2)],i+1):=by rw [FT,if_pos c3]
    refine CW.vc JW [0,2,3,4,5,6,10,16] (by kernel_rfl) ?_
    (repeat ((try refine Vc.mk' ?_);simp (maxSteps:=6000000) only [go_sem,sl,hap,qZ,Ap,ii,hc,hq,kk,decide_true]))
    refine .mk (i+1) hlt (by omega) ((by refine Al.mk' [top+2] hcl (by simp) (by simp) rfl (AF ?_) ?_ ?_ <;> simp [e]))
   ·have hq:(Int.ofNat (at' s i).toNat=10)=False:=eq_false (fun h=>c3 (UInt8.toNat.inj (by have:(at' s i).toNat=10:=Int.ofNat.inj h;rw [this];rfl)))
    have e:FT s (i+1)=FT s i:=by rw [FT,if_neg c3]
    refine CW.vc JW [0,2,3,4,5,6,10,16] (by kernel_rfl) ?_
    (repeat ((try refine Vc.mk' ?_);simp (maxSteps:=6000000) only [go_sem,qZ,Ap,ii,hc,hq,kk,decide_false]))
    refine .mk (i+1) hlt (by omega) ((by refine Al.mk' [top] hcl (by simp) (by simp) rfl (AF ?_) ?_ ?_ <;> simp [e]))
  ·have hi2:i=s.length:=by omega
   subst hi2
   have sl:=fun (h':Hp)=>XP (h':=h') (s:=s) v1
   have hall:=Yn s
   refine CW.vc JW [0,2,3,4,5,6,10,16] (by kernel_rfl) ?_
   (repeat ((try refine Vc.mk' ?_);simp (maxSteps:=6000000) only [go_sem,qZ,Ap,Int.lt_irrefl,decide_false,sl]))
   rw [hall]
   (refine ⟨[top],by simp,by simp,by simp, ?_, ?_, ?_⟩ <;> simp [])
def Lo(w:List UInt8):Int:=if w= [119,111,114,108,100]then 0 else if w= [114,111,117,116,101,114]then 1 else if w= [108,105,110,107]then 2 else if w= [100,114,111,112]∨w= [100,111,117,98,108,101]∨w= [100,101,108,97,121]then 3 else -1
def Z0:BE:= .pure (fun args _=>match args with | [.string ⟨⟨_⟩⟩]=>True | _=>False) (fun args _=>match args with | [s]=> .int .i64 (Lo (strOf s)) | _=>undef)
theorem ABv:Ag Tryz.prog 52 Z0:=by
 refine .EK aZ ?_ ?_
 ·rintro args hp h
  match args,h with
  | [.string ⟨⟨s⟩⟩],_=>rfl
 intro args hp hpre top hcl hsc
 match args,hpre with
 | [.string ⟨⟨s⟩⟩],_=>
 simp only [AH]
 unfold Lo
 refine AJ.Af Am aZ rfl 14 rfl [.tmp 2] rfl (show 1≤14 by decide) ?_
 by_cases c1:s= [119,111,114,108,100]
 ·rw [if_pos c1]
  have c1':=eq_true c1
  refine CW.vc JW [0,2,3,4,6,8,10] (by kernel_rfl) ?_
  (repeat ((try refine Vc.mk' ?_);simp (maxSteps:=6000000) only [go_sem,Ay,c1',decide_true]))
 rw [if_neg c1]
 have c1':=eq_false c1
 by_cases c2:s= [114,111,117,116,101,114]
 ·rw [if_pos c2]
  have c2':=eq_true c2
  refine CW.vc JW [0,2,3,4,6,8,10] (by kernel_rfl) ?_
  (repeat ((try refine Vc.mk' ?_);simp (maxSteps:=6000000) only [go_sem,Ay,c1',c2',decide_true,decide_false]))
 rw [if_neg c2]
 have c2':=eq_false c2
 by_cases c3:s= [108,105,110,107]
 ·rw [if_pos c3]
  have c3':=eq_true c3
  refine CW.vc JW [0,2,3,4,6,8,10] (by kernel_rfl) ?_
  (repeat ((try refine Vc.mk' ?_);simp (maxSteps:=6000000) only [go_sem,Ay,c1',c2',c3',decide_true,decide_false]))
 rw [if_neg c3]
 have c3':=eq_false c3
 by_cases c4:s= [100,114,111,112]
 ·rw [if_pos (.inl c4)]
  have c4':=eq_true c4
  refine CW.vc JW [0,2,3,4,6,8,10] (by kernel_rfl) ?_
  (repeat ((try refine Vc.mk' ?_);simp (maxSteps:=6000000) only [go_sem,Ay,c1',c2',c3',c4',decide_true,decide_false]))
 have c4':=eq_false c4
 by_cases c5:s= [100,111,117,98,108,101]
 ·rw [if_pos (.inr (.inl c5))]
  have c5':=eq_true c5
  refine CW.vc JW [0,2,3,4,6,8,10] (by kernel_rfl) ?_
  (repeat ((try refine Vc.mk' ?_);simp (maxSteps:=6000000) only [go_sem,Ay,c1',c2',c3',c4',c5',decide_true,decide_false]))
 have c5':=eq_false c5
 by_cases c6:s= [100,101,108,97,121]
 ·rw [if_pos (.inr (.inr c6))]
  have c6':=eq_true c6
  refine CW.vc JW [0,2,3,4,6,8,10] (by kernel_rfl) ?_
  (repeat ((try refine Vc.mk' ?_);simp (maxSteps:=6000000) only [go_sem,Ay,c1',c2',c3',c4',c5',c6',decide_true,decide_false]))
 have c6':=eq_false c6
 rw [if_neg (by rintro (h | h | h);exact c4 h;exact c5 h;exact c6 h)]
 refine CW.vc JW [0,2,3,4,6,8,10] (by kernel_rfl) ?_
 (repeat ((try refine Vc.mk' ?_);simp (maxSteps:=6000000) only [go_sem,Ay,c1',c2',c3',c4',c5',c6',decide_false]))
end Go.Proofs.YthlhnangbinhoaaGreatDoor.Dm
set_option linter.unusedVariables false
namespace Go.Proofs.YthlhnangbinhoaaGreatDoor.Dm
open Go.Dm
set_option maxHeartbeats 16000000
set_option maxRecDepth 20000
theorem Y0:∀(u:Nat) (r:List UInt8),u≤9223372036854775808→Lib.parseUint10 0 (Lib.decDigits u ++ r)=Lib.parseUint10 u r:=by
 intro u r hu
 by_cases h:u < 9223372036854775808
 ·exact KW u r h
 ·have hm:u % 10 < 10:=Nat.mod_lt _ (by omega)
  rw [HV (by omega),List.append_assoc,KW (u / 10) _ (by omega),List.cons_append,List.nil_append,Lib.parseUint10]
  have e:=HX hm
  rw [if_pos (by omega),if_neg (by omega),if_neg (by rw [e];omega),e]
  congr 1;omega
theorem wG:∀(u:Nat),u≤9223372036854775808→Ta 0 (Lib.decDigits u)= -(u:Int):=by
 intro u hu
 by_cases h:u < 9223372036854775808
 ·exact Pz u h
 ·have hm:u % 10 < 10:=Nat.mod_lt _ (by omega)
  have e:=HX hm
  rw [HV (by omega),Py,Pz (u / 10) (by omega)]
  show (if _ then _ else _)=_
  rw [e,if_pos (by omega),wrap64 (n:=10 * -((u / 10:Nat):Int)) (by omega) (by omega),wrap64 (by omega) (by omega)]
  omega
theorem Uv {u:Nat}(h:1≤u):Lib.itoa (-(u:Int))=45 :: Lib.decDigits u:=by unfold Lib.itoa;rw [if_pos (by omega)];congr 2;omega
theorem gT {n:Int}(hI:Ev n):Lib.atoiAll (Lib.itoa n)= .ok n:=by
 by_cases h:0≤n
 ·exact Si h hI.2
 ·obtain ⟨u,rfl,hu⟩:∃u:Nat,n= -(u:Int)∧1≤u:=⟨n.natAbs,by omega,by omega⟩
  have h2:=hI.1
  rw [Uv hu,Lib.atoiAll_minus]
  have hp:=Y0 u [] (by omega)
  rw [List.append_nil] at hp
  have hm:Lib.parseMag (Lib.decDigits u)= .ok u:=by
   unfold Lib.parseMag
   rw [if_neg (N1 u),hp]
   rfl
  rw [hm]
  unfold Lib.signed
  dsimp only
  rw [if_neg (by omega)]
theorem pQ {n:Int}(hI:Ev n):HC (Lib.itoa n)=some n:=by
 rw [EW]
 unfold fh Y1
 rw [gT hI]
 exact ⟨rfl,rfl,rfl⟩
theorem kI {n:Int}(hI:Ev n):EL (Lib.itoa n)=n∧LG (Lib.itoa n)=true:=by
 have key:EL (Lib.itoa n)=n:=by
  by_cases h:0≤n
  ·have:=K0 h hI.2
   unfold R7 at this
   split at this
   ·exact this
   ·rename_i hk
    obtain ⟨u,rfl⟩:=Int.eq_ofNat_of_zero_le h
    have hr:=Pz u (by have:=hI.2;omega)
    unfold EL
    rw [Lib.itoa_nonneg,hr,if_neg,wrap64 (by omega) (by have:=hI.2;omega),Int.neg_neg]
    intro hc
    cases hd:Lib.decDigits u with
    |nil=>exact absurd hd (N1 u)
    |cons c r=>
     rw [hd] at hc
     have hc:c=45:=by simpa using hc
     have:=(II u c (by rw [hd];exact List.mem_cons_self ..)).1
     rw [hc] at this
     exact absurd this (by decide)
  ·obtain ⟨u,rfl,hu⟩:∃u:Nat,n= -(u:Int)∧1≤u:=⟨n.natAbs,by omega,by omega⟩
   have h2:=hI.1
   unfold EL
   have e:Ta 0 (45 :: Lib.decDigits u)=Ta 0 (Lib.decDigits u):=by
    show Ta (if _ then _ else _) _=_
    rw [if_neg (by decide)]
   rw [Uv hu,if_pos (by simp),e,wG u (by omega)]
 refine ⟨key, ?_⟩
 have hne:(Lib.itoa n).isEmpty=false:=by
  by_cases h:0≤n
  ·obtain ⟨u,rfl⟩:=Int.eq_ofNat_of_zero_le h
   rw [Lib.itoa_nonneg]
   cases hd:Lib.decDigits u with
   |nil=>exact absurd hd (N1 u)
   |cons c r=>rfl
  ·obtain ⟨u,rfl,hu⟩:∃u:Nat,n= -(u:Int)∧1≤u:=⟨n.natAbs,by omega,by omega⟩
   rw [Uv hu];rfl
 have hl:(Lib.itoa n).length≤20:=by
  have h1:=hI.1
  have h3:=hI.2
  by_cases h:0≤n
  ·obtain ⟨u,rfl⟩:=Int.eq_ofNat_of_zero_le h
   rw [Lib.itoa_nonneg]
   have:=Pn 18 u (by omega)
   omega
  ·obtain ⟨u,rfl,hu⟩:∃u:Nat,n= -(u:Int)∧1≤u:=⟨n.natAbs,by omega,by omega⟩
   rw [Uv hu]
   have:=Pn 18 u (by omega)
   simp only [List.length_cons]
   omega
 unfold LG
 rw [key]
 simp [hne,hl]
theorem pP (w:List UInt8):HC w=if LG w=true then some (EL w) else none:=by
 cases h:HC w with
 |some n=>
  obtain ⟨h1,h2,h3⟩:=EW.1 h
  have hI:Ev n:=by rw [←h2];exact VE h1
  obtain ⟨e1,e2⟩:=kI hI
  rw [h3] at e1 e2
  rw [if_pos e2,e1]
 |none=>
  rw [if_neg]
  intro hk
  unfold LG at hk
  simp only [Bool.and_eq_true,decide_eq_true_eq] at hk
  have:=pQ (RO w)
  rw [hk.2,h] at this
  cases this
end Go.Proofs.YthlhnangbinhoaaGreatDoor.Dm
set_option linter.unusedVariables false
namespace Go.Proofs.YthlhnangbinhoaaGreatDoor.Dm
open Go.Dm
set_option maxHeartbeats 16000000
set_option maxRecDepth 20000
theorem ABr (w:List UInt8):∃m,bj w= .tuple ⟨[.int .i64 m, .bool (LG w)]⟩∧(LG w=true→m=EL w):=by
 by_cases h:w= []∨20 < w.length
 ·obtain ⟨a,_⟩:=tD h
  have e:LG w=false:=by
   unfold LG
   rcases h with rfl | h
   ·rfl
   ·rw [decide_eq_false (show ¬w.length≤20 by omega)];simp
  exact ⟨0,by rw [a,e],fun h=>by rw [e] at h;cases h⟩
 ·have e:LG w=decide (Lib.itoa (EL w)=w):=by
   unfold LG
   rw [decide_eq_true (show w.length≤20 by omega)]
   cases w with
   |nil=>exact absurd (.inl rfl) h
   |cons a l=>simp
  refine ⟨EL w, ?_,fun _=>rfl⟩
  unfold bj
  rw [if_neg h,e]
noncomputable def GP1:FuncId→BE:=BV (BV GR9 50 Zy) 52 Z0
theorem WQ:Bp Tryz.prog tt.get GP1:=(JW.add AAn).add ABv
theorem re:GP1 62=Mj:=rfl
def nbV (ws:Ec)(top:Nat):Value×A6×Nat:=match Ck [] ws with
 |some xs=>(.tuple ⟨[AA top xs, .bool true]⟩, [(top,AD AL xs)],top+1)
 |none=>(.tuple ⟨[.slice none 0 0, .bool false]⟩, [],top)
theorem jf {ws:Ec}{xs:List Int}{top:Nat}(h:Ck [] ws=some xs):nbV ws top=(.tuple ⟨[AA top xs, .bool true]⟩, [(top,AD AL xs)],top+1):=by unfold nbV;rw [h]
theorem je {ws:Ec}{top:Nat}(h:Ck [] ws=none):nbV ws top=(.tuple ⟨[.slice none 0 0, .bool false]⟩, [],top):=by unfold nbV;rw [h]
def QY:BE:= .det (fun args hp _=>match args with | [v]=>Dy AB hp v∧Oj (AB.rd hp v) | _=>False) (fun args hp top=>match args with | [v]=>nbV (AB.rd hp v) top | _=>(undef, [],top))
def qa (hp:Hp)(top:Nat)(v:Value)(x:List Int×Nat):SS:=⟨[(0,v,true),(4,AA top x.1,true),(5, .int .i64 (x.2:Int),true)],hp.Ac [(top,AD AL x.1)],top+1⟩
theorem ABB:Ag Tryz.prog 85 QY:=by
 refine .Eh bB ?_
 intro args hp top hpre hcl hsc
 match args,hpre with
 | [v],⟨⟨ws,h⟩,hW⟩=>
 have hs:=h.low hcl
 simp only [h.rd] at hW ⊢
 refine AJ.Af Am bB rfl 29 rfl [.tmp 2, .tmp 3] rfl (show 1≤29 by decide) ?_
 refine CW.vc WQ [0,2,3,4,5,6,7,11,23] (by kernel_rfl) ?_
 (repeat ((try refine Vc.mk' ?_);simp (maxSteps:=6000000) only [go_sem]))
 refine CW.Bc (qa hp top v) (fun x=>x.2≤ws.length∧x.1.length=x.2∧Ck [] ws=Ck x.1 (ws.drop x.2)) (fun x=>ws.length - x.2) ([],0) ⟨Nat.zero_le _,rfl,rfl⟩ ?_ ?_
 ·exact (by refine Al.mk' [top] hcl (by simp) (by simp) rfl (AF ?_) ?_ ?_ <;> simp [Sc.Ao (fun j hj=>AE hj) hs,DD,Dp])
 rintro ⟨xs,k⟩ ⟨hk,hx,hrun⟩
 replace hk:k≤ws.length:=hk
 replace hx:xs.length=k:=hx
 replace hrun:Ck [] ws=Ck xs (ws.drop k):=hrun
 have hWl:=hW.1
 by_cases hlt:k < ws.length
 ·have l1:((k:Int) < (ws.length:Int)):=by omega
  have kk:Ad .i64 ((k:Int)+1)=((k+1:Nat):Int):=Ae hlt (by omega)
  rw [Kk hlt] at hrun
  have hwl:=hW.2 (at' ws k) (by rw [BS _ _ hlt];exact List.getElem_mem hlt)
  have w1:((at' ws k).length≤100000000)=True:=eq_true (by omega)
  obtain ⟨m,hm,hm2⟩:=ABr (at' ws k)
  have hno:=pP (at' ws k)
  cases hb:LG (at' ws k) with
  |false=>
   rw [hb] at hm hno
   have e:Ck [] ws=none:=by rw [hrun];show (match HC (at' ws k) with | some n=>_ | none=>none)=none;rw [hno];rfl
   rw [je e]
   refine CW.vc WQ [0,2,3,4,5,6,7,11,23] (by kernel_rfl) ?_
   (repeat ((try refine Vc.mk' ?_);simp (maxSteps:=6000000) only [go_sem,qa,CC h,Bo h,B9 h,Ab hs,l1,hlt,re,Mj,w1,AH,hm]))
   (refine ⟨[],by simp,by simp,by simp, ?_, ?_, ?_⟩ <;> simp [])
  |true=>
   have hm3:=hm2 hb
   rw [hb] at hm hno
   subst hm3
   have hr2:Ck [] ws=Ck (xs ++ [EL (at' ws k)]) (ws.drop (k+1)):=by rw [hrun];show (match HC (at' ws k) with | some n=>_ | none=>none)=_;rw [hno];rfl
   have hap:∀ {h':Hp} {q t:Nat},h' top=AD AL xs→h' q=some (.cells true 1 [.int .i64 (EL (at' ws k))])→AK tt.get h' t [68,68] (AA top xs) (.slice (some ⟨q,0,none⟩) 1 1)=some (AA t (xs ++ [EL (at' ws k)]),Bu top xs t (AD AL (xs ++ [EL (at' ws k)])),t+1):=fun {h'} {q} {t} a1 a2=>by
    have e3:cellsOf (h' q)=AL.enc (EL (at' ws k)):=by rw [a2];rfl
    have:=IA (hp:=h') (b:=top) (top:=t) (k:=q) a1 (by rw [e3];exact a2) (by rw [e3,AL.h]) (CO (by omega) (by decide))
    rwa [e3,AL.h] at this
   refine CW.vc WQ [0,2,3,4,5,6,7,11,23] (by kernel_rfl) ?_
   (repeat ((try refine Vc.mk' ?_);simp (maxSteps:=6000000) only [go_sem,qa,CC h,Bo h,B9 h,Ab hs,l1,hlt,kk,re,Mj,w1,AH,hm,hap]))
   refine .mk (xs ++ [EL (at' ws k)],k+1) ⟨hlt,by show (xs ++ [EL (at' ws k)]).length=k+1;rw [List.length_append,hx];rfl,hr2⟩ (by show ws.length - (k+1) < ws.length - k;omega) ((by refine Al.mk' [top+2] hcl (by simp) (by simp) rfl (AF ?_) ?_ ?_ <;> simp [Sc.Ao (fun j hj=>AE hj) hs,Av,Ai]))
 ·have hk2:k=ws.length:=by omega
  subst hk2
  have l1:¬((ws.length:Int) < (ws.length:Int)):=by omega
  have e:Ck [] ws=some xs:=by rw [hrun,List.drop_length];rfl
  rw [jf e]
  refine CW.vc WQ [0,2,3,4,5,6,7,11,23] (by kernel_rfl) ?_
  (repeat ((try refine Vc.mk' ?_);simp (maxSteps:=6000000) only [go_sem,qa,CC h,l1,decide_false]))
  (refine ⟨[top],by simp,by simp,by simp, ?_, ?_, ?_⟩ <;> simp [Av,Ai])
end Go.Proofs.YthlhnangbinhoaaGreatDoor.Dm
