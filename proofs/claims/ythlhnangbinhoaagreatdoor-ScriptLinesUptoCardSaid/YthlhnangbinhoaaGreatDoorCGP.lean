/- F8 and links, and their graph, without the program. -/
import Derived.Test.YthlhnangbinhoaaGreatDoorCGA
set_option linter.unusedVariables false
namespace Go.Proofs.YthlhnangbinhoaaGreatDoor.Gr
open Go.Dm Go.Proofs.YthlhnangbinhoaaGreatDoor.Dm
def SC (n:Int)(a:Int):Bool:=decide (a=n)
def aG:List Int→List Int→Bool
 |_, []=>true
 |done,n :: l=>CM n && !done.any (SC n) && aG (done ++ [n]) l
def pr (a b:Int)(x:Ak):Bool:=(decide (x.A=a) && decide (x.B=b)) || (decide (x.A=b) && decide (x.B=a))
def E8 (R:List Int)(x:Ak):Bool:= !decide (x.A=x.B) && R.any (SC x.A) && R.any (SC x.B) && QR x.EB
def mq (R:List Int):List Ak→List Ak→Int
 |_, []=>0
 |done,x :: l=>if E8 R x=false then 2 else if done.any (pr x.A x.B) then 7 else mq R (done ++ [x]) l
def Gs (R:List Int)(l:List Ak):Int:=if aG [] R=false then 2 else if 48 < l.length then 3 else mq R [] l
def DB:List Ak→Int→Int→Int
 | [],_,_=>0
 |x :: l,a,b=>if pr a b x=true then x.EB else DB l a b
def V7 (R:List Int):List Bool:=(List.range 25).map fun (i:Nat)=>R.any (SC (i:Int))
def sL (l:List Ak):List Int:=(List.range 625).map fun i=>DB l ((i / 25:Nat):Int) ((i % 25:Nat):Int)
theorem UT (R:List Int):(V7 R).length=25:=by simp [V7]
theorem kV (l:List Ak):(sL l).length=625:=by simp [sL]
theorem Mu (R:List Int){a:Nat}(ha:a < 25):((V7 R)[a]?).getD false=R.any (SC (a:Int)):=by simp [V7,ha]
theorem YI (l:List Ak){a b:Nat}(ha:a < 25)(hb:b < 25):((sL l)[a * 25+b]?).getD 0=DB l (a:Int) (b:Int):=by
 have h:a * 25+b < 625:=by omega
 have e1:(a * 25+b) / 25=a:=by omega
 have e2:(a * 25+b) % 25=b:=by omega
 unfold sL
 rw [List.getElem?_map,List.getElem?_range h]
 simp only [Option.map_some,Option.getD_some,e1,e2]
theorem lg {done:List Int}{n:Int}(h:CM n=true):(V7 done).set n.toNat true=V7 (done ++ [n]):=by
 simp only [CM,Bool.and_eq_true,decide_eq_true_eq] at h
 unfold V7
 apply R3
 ·rw [List.any_append]
  have:SC ((n.toNat:Nat):Int) n=true:=by simp only [SC,decide_eq_true_eq];omega
  simp only [List.any_cons,this,Bool.true_or,Bool.or_true]
 ·intro j _ hne
  rw [List.any_append]
  have:SC (j:Int) n=false:=by simp only [SC,decide_eq_false_iff_not];omega
  simp [this]
theorem Z9 (a b:Int)(x:Ak):pr a b x=pr b a x:=by unfold pr;rw [Bool.or_comm]
theorem Qy:∀(l:List Ak) (a b:Int),DB l a b=DB l b a
 | [],_,_=>rfl
 |x :: l,a,b=>by rw [DB,DB,Z9 a b,Qy l a b]
theorem Sr:∀(l:List Ak) (x:Ak) (a b:Int),l.any (pr a b)=false→DB (l ++ [x]) a b=if pr a b x=true then x.EB else 0
 | [],_,_,_,_=>rfl
 |y :: l,x,a,b,h=>by
  simp only [List.any_cons,Bool.or_eq_false_iff] at h
  rw [List.cons_append,DB,if_neg (by simp [h.1])]
  exact Sr l x a b h.2
theorem Ru:∀(l:List Ak) (x:Ak) (a b:Int),pr a b x=false→DB (l ++ [x]) a b=DB l a b
 | [],x,a,b,h=>by simp [DB,h]
 |y :: l,x,a,b,h=>by rw [List.cons_append,DB,DB,Ru l x a b h]
theorem aK {a b:Int}{x:Ak}(h:pr a b x=true)(y:Ak):pr x.A x.B y=pr a b y:=by
 simp only [pr,Bool.or_eq_true,Bool.and_eq_true,decide_eq_true_eq] at h
 rcases h with ⟨rfl,rfl⟩ | ⟨rfl,rfl⟩
 ·rfl
 ·exact Z9 _ _ _
theorem ZW {l:List Ak}{x:Ak}(h:l.any (pr x.A x.B)=false)(a b:Int):DB (l ++ [x]) a b=if pr a b x=true then x.EB else DB l a b:=by
 cases hp:pr a b x with
 |false=>rw [Ru l x a b hp];rfl
 |true=>
  have:l.any (pr a b)=false:=by
   rw [←h];congr 1;funext y;exact (aK hp y).symm
  rw [Sr l x a b this,hp]
  simp
theorem qn {done:List Ak}{x:Ak}(ha:CM x.A=true)(hb:CM x.B=true)(h:done.any (pr x.A x.B)=false) :
  ((sL done).set (x.A.toNat * 25+x.B.toNat) x.EB).set (x.B.toNat * 25+x.A.toNat) x.EB=sL (done ++ [x]):=by
 simp only [CM,Bool.and_eq_true,decide_eq_true_eq] at ha hb
 have key:∀j,j < 625→DB (done ++ [x]) ((j / 25:Nat):Int) ((j % 25:Nat):Int)=if j=x.A.toNat * 25+x.B.toNat∨j=x.B.toNat * 25+x.A.toNat then x.EB else DB done ((j / 25:Nat):Int) ((j % 25:Nat):Int):=by
  intro j hj
  rw [ZW h]
  have:pr ((j / 25:Nat):Int) ((j % 25:Nat):Int) x=true ↔ (j=x.A.toNat * 25+x.B.toNat∨j=x.B.toNat * 25+x.A.toNat):=by
   simp only [pr,Bool.or_eq_true,Bool.and_eq_true,decide_eq_true_eq]
   omega
  by_cases hc:j=x.A.toNat * 25+x.B.toNat∨j=x.B.toNat * 25+x.A.toNat
  ·rw [if_pos hc,if_pos (this.2 hc)]
  ·rw [if_neg hc,if_neg (fun e=>hc (this.1 e))]
 unfold sL
 apply List.ext_getElem?
 intro j
 rw [List.getElem?_set,List.getElem?_set]
 by_cases hj:j < 625
 ·have hk:=key j hj
  simp only [List.length_set,List.length_map,List.length_range,List.getElem?_map,List.getElem?_range hj,Option.map_some,hk]
  by_cases h1:x.B.toNat * 25+x.A.toNat=j
  ·rw [if_pos h1,if_pos (by omega),if_pos (.inr h1.symm)]
  ·rw [if_neg h1]
   by_cases h2:x.A.toNat * 25+x.B.toNat=j
   ·rw [if_pos h2,if_pos (by omega),if_pos (.inl h2.symm)]
   ·rw [if_neg h2,if_neg (by omega)]
 ·rw [if_neg (by omega),if_neg (by omega)]
  simp [hj]
theorem ZO:∀(l done:List Int),aG done l=true→∀n∈l,CM n=true
 | [],_,_,_,h=>by cases h
 |m :: l,done,h,n,hn=>by
  simp only [aG,Bool.and_eq_true] at h
  rcases List.mem_cons.1 hn with rfl | hn
  ·exact h.1.1
  ·exact ZO l _ h.2 n hn
theorem Yn {R:List Int}(h:∀n∈R,CM n=true){n:Int}(hn:R.any (SC n)=true):CM n=true:=by
 obtain ⟨m,hm,e⟩:=List.any_eq_true.1 hn
 simp only [SC,decide_eq_true_eq] at e
 subst e;exact h m hm
structure Z5 (R:List Int) (l:List Ak):Prop where
 ok:∀x∈l,E8 R x=true
 ne:l.Pairwise fun x y=>pr y.A y.B x=false
theorem ZM {R:List Int}:∀(l done:List Ak),mq R done l=0→(∀x∈l,E8 R x=true∧done.any (pr x.A x.B)=false)∧l.Pairwise fun x y=>pr y.A y.B x=false
 | [],_,_=>⟨by simp, .nil⟩
 |x :: l,done,h=>by
  unfold mq at h
  split at h
  ·cases h
  ·rename_i h1
   split at h
   ·cases h
   ·rename_i h2
    obtain ⟨a,b⟩:=ZM l _ h
    refine ⟨?_,List.pairwise_cons.2 ⟨?_,b⟩⟩
    ·intro y hy
     rcases List.mem_cons.1 hy with rfl | hy
     ·exact ⟨by simpa using h1,by simpa using h2⟩
     ·obtain ⟨c,d⟩:=a y hy
      rw [List.any_append,Bool.or_eq_false_iff] at d
      exact ⟨c,d.1⟩
    ·intro y hy
     obtain ⟨_,d⟩:=a y hy
     rw [List.any_append,Bool.or_eq_false_iff] at d
     simpa using d.2
def uQ (l:List Ak)(a b:Int):List DD:=(l.filter (pr a b)).map fun x=>⟨a,b,x.EB⟩
theorem filter_one {a b:Int}:∀ {l:List Ak},l.Pairwise (fun x y=>pr y.A y.B x=false)→uQ l a b=if l.any (pr a b)=true then [⟨a,b,DB l a b⟩] else []
 | [],_=>rfl
 |x :: l,h=>by
  obtain ⟨h1,h2⟩:=List.pairwise_cons.1 h
  have ih:=filter_one (a:=a) (b:=b) h2
  unfold uQ at ih ⊢
  cases hp:pr a b x with
  |false=>
   have e1:(x :: l).filter (pr a b)=l.filter (pr a b):=by rw [List.filter_cons,hp];rfl
   have e2:DB (x :: l) a b=DB l a b:=by rw [DB,hp];rfl
   have e3:(x :: l).any (pr a b)=l.any (pr a b):=by rw [List.any_cons,hp,Bool.false_or]
   rw [e1,e2,e3,ih]
  |true=>
   have hn:l.any (pr a b)=false:=by
    rw [List.any_eq_false]
    intro y hy
    have:=h1 y hy
    intro hpy
    rw [←aK hpy x] at hp
    rw [hp] at this;cases this
   have e1:(x :: l).filter (pr a b)=x :: l.filter (pr a b):=by rw [List.filter_cons,hp];rfl
   have e2:DB (x :: l) a b=x.EB:=by rw [DB,hp];rfl
   have e3:(x :: l).any (pr a b)=true:=by rw [List.any_cons,hp,Bool.true_or]
   rw [e1,e2,e3,List.map_cons,ih,hn]
   rfl
theorem OX {R:List Int}{l:List Ak}(h:∀x∈l,E8 R x=true)(a b:Int):0 < DB l a b ↔ l.any (pr a b)=true:=by
 induction l with
 |nil=>simp [DB]
 |cons x l ih=>
  have hx:=h x (List.mem_cons_self ..)
  have ih:=ih fun y hy=>h y (List.mem_cons_of_mem _ hy)
  rw [DB,List.any_cons]
  cases hp:pr a b x with
  |false=>simpa [hp] using ih
  |true=>
   simp only [E8,QR,Bool.and_eq_true,decide_eq_true_eq] at hx
   simp;omega
def uv (l:List Ak)(a m:Nat):List DD:=(List.range m).flatMap fun (b:Nat)=>uQ l (a:Int) (b:Int)
def P7 (R:List Int)(l:List Ak)(n:Nat):List DD:=(List.range n).flatMap fun (a:Nat)=>if R.any (SC (a:Int)) then uv l a 25 else []
def QC (R:List Int)(n:Nat):List Int:=((List.range n).filter fun (i:Nat)=>R.any (SC (i:Int))).map fun (i:Nat)=>(i:Int)
theorem iY (R:List Int):Em (V7 R) 25=QC R 25:=by
 unfold Em QC
 rw [Lw fun i hi=>show iS (V7 R) i=R.any (SC (i:Int)) from Mu R (List.mem_range.1 hi)]
theorem ed {R:List Int}{l:List Ak}(h:Z5 R l):Fe (sL l) (V7 R) 25=P7 R l 25:=by
 unfold Fe P7
 refine HX fun a ha=> ?_
 have ha':=List.mem_range.1 ha
 have e1:iS (V7 R) a=R.any (SC (a:Int)):=Mu R ha'
 rw [e1]
 have:Oc (sL l) a 25=uv l a 25:=by
  unfold Oc uv
  refine HX fun b hb=> ?_
  have hb':=List.mem_range.1 hb
  have c1:cS (sL l) a b=DB l (a:Int) (b:Int):=YI l ha' hb'
  have c2:cS (sL l) b a=DB l (b:Int) (a:Int):=YI l hb' ha'
  unfold NL
  rw [c1,c2,Qy l (b:Int) (a:Int),filter_one h.ne]
  by_cases hc:l.any (pr (a:Int) (b:Int))=true
  ·have:=(OX h.ok (a:Int) (b:Int)).2 hc
   rw [if_pos hc,if_pos ⟨this,this⟩]
  ·rw [if_neg hc,if_neg (fun e=>hc ((OX h.ok _ _).1 e.1))]
 rw [this]
def nO (R:List Int)(l:List Ak):List Int:=if Gs R l=0 then QC R 25 else []
def eO (R:List Int)(l:List Ak):List DD:=if Gs R l=0 then P7 R l 25 else []
theorem jg {R:List Int}{l:List Ak}(h:Gs R l=0):aG [] R=true∧l.length≤48∧mq R [] l=0:=by
 unfold Gs at h
 split at h
 ·cases h
 ·rename_i h1
  split at h
  ·cases h
  ·exact ⟨by simpa using h1,by omega,h⟩
theorem eC {R:List Int}{l:List Ak}(h:mq R [] l=0):Z5 R l:=⟨fun x hx=>((ZM l [] h).1 x hx).1,(ZM l [] h).2⟩
end Go.Proofs.YthlhnangbinhoaaGreatDoor.Gr
