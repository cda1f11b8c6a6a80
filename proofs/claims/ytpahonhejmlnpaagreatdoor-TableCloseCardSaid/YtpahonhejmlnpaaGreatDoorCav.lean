/- A part of the proof of TableClose. -/
import Derived.Test.YtpahonhejmlnpaaGreatDoorCau
import Derived.Laws.Strings2
set_option linter.unusedVariables false
set_option linter.unusedSimpArgs false
namespace Go.Opn
noncomputable section
open Go.Cre Go.RowKit
inductive ey (J:an) (e:TypeId) (sz:Nat):Value->Nat->List Value->Prop
 |nil:ey J e sz (.slice none 0 0) 0 []
 |ik (a off cap:Nat):cap<cu->ey J e sz (.slice (some ⟨a,off,none⟩) 0 cap) 0 []
 |tN:ey J e sz (.slice (some ⟨0,0,some 0⟩) 0 0) 0 []
 |row {a off len cap:Nat} {cells cs:List Value} {bk:TypeId}:J a=some (cells,bk)->(cells.drop off).take (len*sz)=cs->cs.length=len*sz->(cap≠cu->len<=cap/\cap<cu)->(cap=cu->bk=e)->ey J e sz (.slice (some ⟨a,off,none⟩) len cap) len cs
theorem ey.mono{J ae:an}(hle:J.le ae){e:TypeId}{sz n:Nat}{v:Value}{cs:List Value}(h:ey J e sz v n cs):ey ae e sz v n cs:=by
 cases h with
 |nil=>exact .nil
 |ik a off cap h=>exact .ik a off cap h
 |tN=>exact .tN
 |row aa ab aY bu gI=>exact .row (hle _ _ aa) ab aY bu gI
theorem ey.inv{J:an}{e:TypeId}{sz n:Nat}{v:Value}{cs:List Value}(h:ey J e sz v n cs):∃b c,v=.slice b n c/\cs.length=n*sz/\(b=none->n=0)/\(0<n->∃a off cells bk,b=some ⟨a,off,none⟩/\J a=some (cells,bk)/\∀k,k<n*sz->nth cells (off+k)=cs[k]?):=by
 cases h with
 |nil=>exact⟨_,_,rfl,by simp,fun _=>rfl,fun q=>absurd q (by omega)⟩
 |ik a off cap h=>exact⟨_,_,rfl,by simp,fun _=>rfl,fun q=>absurd q (by omega)⟩
 |tN=>exact⟨_,_,rfl,by simp,fun _=>rfl,fun q=>absurd q (by omega)⟩
 |@row a off len cap cells cs bk aa ab aY bu gI=>
  refine⟨_,_,rfl,aY,(fun q=>by cases q),fun _=>⟨a,off,cells,bk,rfl,aa,fun k hk=>?_⟩⟩;rw[jU,<-ab,lW,bg hk,uY]
theorem ey.len{J:an}{e:TypeId}{sz n:Nat}{v:Value}{cs:List Value}(h:ey J e sz v n cs):cs.length=n*sz:=by
 obtain⟨_,_,_,h,_⟩:=h.inv;exact h
theorem uJ{α:Type}{n:Nat}{l:List α}(h:n<=l.length):takeN n l=some (l.take n):=by
 induction n generalizing l with
 |zero=>rfl
 |succ n aP=>
  cases l with
  |nil=>simp at h
  |cons a l=>
   simp only[takeN];rw[aP (by simpa using h)];rfl
def ko(g0:Nat)(B:dt)(J:an)(m:aU)(sz:Nat)(v:Value)(n:Nat)(cs:List Value):Prop:=∀H,Inv g0 B J m H->ou v=some n/\h1 H sz n v=some cs
theorem ey.rd{g0:Nat}{B:dt}{J:an}{m:aU}{e:TypeId}{sz n:Nat}{v:Value}{cs:List Value}(h:ey J e sz v n cs):ko g0 B J m sz v n cs:=by
 intro H av;cases h with
 |nil=>exact⟨rfl,rfl⟩
 |ik a off cap h=>exact⟨rfl,rfl⟩
 |tN=>exact⟨rfl,rfl⟩
 |@row a off len cap cells cs bk aa ab aY bu gI=>
  refine⟨rfl,?_⟩;obtain⟨o,f,z,s,q⟩:=av.dB _ _ _ aa;unfold h1;cases n with
  |zero=>simp only;rw[<-ab];simp
  |succ n=>
   simp only[q];rw[tL,uJ,ab];have:((cells.drop off).take ((n+1)*sz)).length=(n+1)*sz:=by rw[ab];exact aY
   rw[gp] at this;omega
section
variable {K:dG}{B:dt}{o:Oper}{n:Nat}{ds:dQ}{l:List (Nat×Value)}{m m':aU}{J:an}{eg:b3->aU->an->Prop}{d:Nat}
def iY (P:Program)(t:TypeId):Option (TypeId×Nat×List Value):=match P.underlying t with
 |some (.slice e)=>(match ea P e,q6 P e,fG P e with
  |some sz,some gq,some z=>bif Nat.ble gq 1000000&&Nat.beq z.cells.toList.length sz&&z.cells.toList.all ev&&plain z then some (e,sz,z.cells.toList) else none
  |_,_,_=>none)
 |_=>none
theorem r0{P:Program}{t e:TypeId}{sz:Nat}{fz:List Value}(h:iY P t=some (e,sz,fz)):P.underlying t=some (.slice e)/\ea P e=some sz/\∃gq z,q6 P e=some gq/\fG P e=some z/\Nat.ble gq 1000000=true/\fz=z.cells.toList/\fz.length=sz/\fz.all ev=true/\plain z=true:=by
 unfold iY at h;split at h
 ·rename_i bk aa;split at h
  ·rename_i adS gq z ab aY bu;cases ah:(Nat.ble gq 1000000&&Nat.beq z.cells.toList.length adS&&z.cells.toList.all ev&&plain z) with
   |true=>
    rw[ah,b1] at h;simp only[b9,c'] at h;obtain⟨rfl,rfl,rfl⟩:=h;simp only[fp] at ah;obtain⟨⟨⟨br,bN⟩,cW⟩,dj⟩:=ah;exact⟨aa,ab,gq,z,aY,bu,br,rfl,dX bN,cW,dj⟩
   |false=>rw[ah,da] at h;cases h
  ·cases h
 ·cases h
theorem ae9{t e:TypeId}{k sz:Nat}{fz cells:List Value}{ps:Array (Nat×Operand)}{vs:List (Nat×Value)}(ag:o.op=.buildSlice t k ps)(au:o.dst=some d)(aw:Nat.blt d n=true)(ao:pQ l ps.toList=some vs)(aM:iY K.P t=some (e,sz,fz))(hk:(Nat.ble k 100000&&Nat.ble (k*sz) 100000)=true)(az:lc (fun i=>some (i*sz,sz)) (eN fz k) vs=some cells)(aa:cells.all ev=true)
 (h:∀a,eg ⟨n,ds,(d,.slice (some ⟨a,0,none⟩) k k)::l⟩ ((a,.row cells e)::m) J):hU K B o ⟨n,ds,l⟩ m J eg:=by
 obtain⟨hu,dA,gq,z,gJ,a0,br,rfl,bN,cW,dj⟩:=r0 aM;refine hU.wO au aw fun S H ak av=>?_;obtain⟨H1,aC,aZ⟩:=av.alloc cells e;refine⟨_,H1,_,J,fun call aE=>?_,aZ,h H.ax⟩;unfold ct eA;simp only[ag];show Bx K.P _ t k (jF S.T H ps.toList)=_;rw[ML ak H ao];show k1 (zT K.P H t k vs)=_;unfold zT qn;simp only[hu,dA,a0];rw[hk,dj,show Nat.beq z.cells.toList.length sz=true by rw[bN];exact gH _];simp only[tq,b1,az,aa,aC];rfl
theorem AZ{i:Int}{len:Nat}(aX:0<=i)(aa:i<=len):nC i len=some i.toNat:=by
 cases i with
 |ofNat n=>
  unfold nC;have:Nat.ble n len=true:=j3 (by simpa using aa);simp only[this,b1];rfl
 |negSucc n=>exact absurd aX (by simp)
theorem wQ{t e:TypeId}{x y:Operand}{sz:Nat}{fz:List Value}{i j:Int}{rP D2:IntKind}(ag:o.op=.makeSlice t x y)(au:o.dst=some d)(aw:Nat.blt d n=true)(U:bH l x=some (.int rP i))(aF:bH l y=some (.int D2 j))(aM:iY K.P t=some (e,sz,fz))(aX:0<=i)(aa:i<=j)(ab:j<=1000000)
 (h:∀a,eg ⟨n,ds,(d,.slice (some ⟨a,0,none⟩) i.toNat j.toNat)::l⟩ ((a,.row (eN fz j.toNat) e)::m) J):hU K B o ⟨n,ds,l⟩ m J eg:=by
 obtain⟨hu,dA,gq,z,gJ,a0,br,rfl,bN,cW,dj⟩:=r0 aM;refine hU.wO au aw fun S H ak av=>?_;obtain⟨H1,aC,aZ⟩:=av.alloc (eN z.cells.toList j.toNat) e;refine⟨_,H1,_,J,fun call aE=>?_,aZ,h H.ax⟩;unfold ct eA;simp only[ag];show By K.P _ t (aW S.T H x) (aW S.T H y)=_;rw[c1 ak H U,c1 ak H aF];show k1 (zW K.P H t (.int rP i) (.int D2 j))=_;unfold zW qn;simp only[hu,a0,gJ,dA];rw[AZ (by omega) (by omega),AZ (by omega) (by omega)];simp only[br,cW,dj,B9];rw[show Nat.beq z.cells.toList.length sz=true by rw[bN];exact gH _,show Nat.ble i.toNat j.toNat=true from j3 (by omega)];simp only[B9,b1,aC];rfl
inductive Acc (e:TypeId) (sz:Nat):Value->Nat->List Value->aU->Prop
 |nil:Acc e sz (.slice none 0 0) 0 [] []
 |ik (a:Nat):Acc e sz (.slice (some ⟨a,0,none⟩) 0 0) 0 [] []
 |opn {a k:Nat} {cells:List Value} {rest:List Nat} {z:Nat}:cells.length=k*sz->z<=cells.length->Acc e sz (.slice (some ⟨a,0,none⟩) k cu) k cells [(a,.opn cells e rest z)]
 |cap {a k C:Nat} {cells full:List Value} {el:TypeId}:full.length=C*sz->full.take (k*sz)=cells->k<=C->C<cu->Acc e sz (.slice (some ⟨a,0,none⟩) k C) k cells [(a,.row full el)]
theorem EL{α:Type}:∀(off:Nat) (l vs:List α),off+vs.length<=l.length->fO off l vs=some (l.take off++vs++l.drop (off+vs.length)):=by
 intro off;induction off with
 |zero=>
  intro l vs h;induction vs generalizing l with
  |nil=>cases l<;>simp[fO]
  |cons v vs aP=>
   cases l with
   |nil=>simp at h
   |cons a l=>
    have:=aP l (by simp only[lx] at h;omega);simp only[fO,this];simp
 |succ n aP=>
  intro l vs h;cases l with
  |nil=>simp at h
  |cons a l=>
   have:=aP l vs (by simp only[lx] at h;omega);simp only[fO,this];simp[Nat.add_right_comm n 1 vs.length]
theorem Inv.perm{g0:Nat}{H:ai}(h:Inv g0 B J m H)(ao:m.Perm m'):Inv g0 B J m' H:=
 ⟨h.wf,h.bp,h.ax,h.b7,h.ff,h.kX,h.dB,h.le,h.fresh,fun a b q=>h.own a b (ao.symm.subset q),fun a b q=>h.opn a b (ao.symm.subset q),(DU ao).nodup_iff.1 h.fw⟩
theorem Inv.grow{g0 a z:Nat}{H:ai}{cells:List Value}{e:TypeId}{rest:List Nat}(h:Inv g0 B J ((a,.opn cells e rest z)::m) H)(cells':List Value):∃f H1 bK,H.mem.get a=some (.row cells e true f z false)/\H.bl.get f=some (a::rest)/\H.oD f (H.ax::a::rest)=some H1/\H1.ax=H.ax/\H1.new (.row cells' e true f z false)=some (H.ax,bK)/\Inv g0 B J ((H.ax,.opn cells' e (a::rest) z)::m) bK:=by
 obtain⟨a9,a4,bJ,cx⟩:=h.own a _ (.head _);obtain⟨f,f1,f2,f3⟩:=a9;have NU:=h.wf.z1 f3;have dz:=h.fw;rw[show ids ((a,dh.opn cells e rest z)::m)=a::(rest++ids m) from rfl,pI,nQ] at dz;obtain⟨H1,aC⟩:=h.wf.oD (H.ax::a::rest) NU;obtain⟨s2,s1,h',yM,qE⟩:=ai.yO aC;have hm:Inv g0 B J m H1:=by
  refine⟨h.wf.JO NU aC,yM.trans h.bp,by rw[s2];exact h.ax,by rw[h'];exact h.b7,fun x U fl=>by rw[s1];exact h.ff x U fl,fun g aq=>?_,fun x c e a5=>by rw[s1];exact h.dB x c e a5,h.le,h.fresh,fun x b ah=>?_,fun x b ah y aF=>by rw[s2];exact h.opn x b (.tail _ ah) y aF,(w5 _ _).nodup dz.2⟩
  ·rw[qE,a3 (fun q=>aq (by rw[q];exact f1))];exact h.kX g aq
  ·obtain⟨fM,fg,iu,jS⟩:=h.own x b (.tail _ ah);refine⟨?_,fg,iu,jS⟩;cases b with
   |row c e=>show H1.mem.get x=_;rw[s1];exact fM
   |map es k=>show H1.mem.get x=_;rw[s1];exact fM
   |loop r=>show H1.mem.get x=_;rw[s1];exact fM
   |ft=>show H1.mem.get x=_;rw[s1];exact fM
   |opn c bk r gi=>
    obtain⟨g,cm,cn,cR⟩:=fM;refine⟨g,cm,by rw[s1];exact cn,?_⟩;rw[qE,a3]
    ·exact cR
    ·intro q;subst q;rw[f3] at cR;injection cR with cR;injection cR with cR
     subst cR;exact dz.1 (.inr (uk ah))
 obtain⟨bK,aZ⟩:=hm.wf.new (.row cells' e true f z false);obtain⟨_,cY,ee,fa,gV,ef⟩:=ai.mb aZ;refine⟨f,H1,bK,f2,f3,aC,s2,by rw[<-s2];exact aZ,?_⟩;have ab:Inv g0 B J m bK:=by
  refine⟨hm.wf.I5 aZ,gV.trans hm.bp,by have:=hm.ax;omega,by rw[fa];exact hm.b7,fun x U fl=>?_,fun g aq=>by rw[ee];exact hm.kX g aq,fun x c e a5=>?_,hm.le,hm.fresh,fun x b ah=>?_,fun x b ah y aF=>?_,hm.fw⟩
  ·rw[ef,a3 (by have:=hm.ax;omega)];exact hm.ff x U fl
  ·obtain⟨o,f,z,s,q⟩:=hm.dB x c e a5;exact⟨o,f,z,s,by rw[ef,a3 (by have:=hm.wf.lt q;omega)];exact q⟩
  ·obtain⟨fM,fg,iu,jS⟩:=hm.own x b ah;exact⟨dh.sm fM (by rw[ef,a3 (by have:=hm.lt ah;omega)]) (fun f l az=>by rw[ee];exact az),fg,iu,jS⟩
  ·obtain⟨fM,fg,iu⟩:=hm.opn x b ah y aF;exact⟨by omega,fg,iu⟩
 refine⟨ab.wf,ab.bp,ab.ax,ab.b7,ab.ff,ab.kX,ab.dB,ab.le,ab.fresh,fun x b ah=>?_,fun x b ah y aF=>?_,?_⟩
 ·rcases gj.1 ah with q|q
  ·injection q with aR aN;subst aR;subst aN
   exact⟨⟨f,f1,by rw[ef,s2,bg rfl],by rw[ee,qE,bg rfl]⟩,.inl h.ax,h.I6,h.GR⟩
  ·exact ab.own x b q
 ·rcases gj.1 ah with q|q
  ·injection q with aR aN;subst aR;subst aN
   have cD:y<H.ax/\(B.H0.ax<=y\/B.X y)/\J y=none:=by
    rcases gj.1 (show y∈a::rest from aF) with q|q
    ·subst q;exact⟨h.lt (.head _),a4,bJ⟩
    ·exact h.opn a _ (.head _) y q
   exact⟨by have:=cD.1;omega,cD.2⟩
  ·exact ab.opn x b q y aF
 ·show(H.ax::(a::(rest++ids m))).Nodup;rw[pI];refine⟨fun q=>?_,h.fw⟩;have:=h.D7 (show H.ax∈ids ((a,dh.opn cells e rest z)::m) from q);omega
theorem L6{j:Nat}(h:j≠0):Nat.ble (0+j) 0=false:=by
 cases q:Nat.ble (0+j) 0
 ·rfl
 ·have:=gy q;omega
def kn(ba:aU):Prop:=∀a c e r z,(a,dh.opn c e r z)∈ba->z=0
theorem Ky{a:Nat}{c:List Value}{e:TypeId}{r:List Nat}:kn [(a,.opn c e r 0)]:=fun a c e r z q=>by
 rcases gj.1 q with q|q
 ·injection q with _ q;injection q
 ·cases q
theorem afe{a:Nat}{c:List Value}{e:TypeId}:kn [(a,.row c e)]:=fun a c e r z q=>by
 rcases gj.1 q with q|q
 ·cases q
 ·cases q
theorem afd{a bE:Nat}{c bw:List Value}{e bk:TypeId}{r cg:List Nat}{z:Nat}(h:kn [(a,.opn c e r z)]):kn [(bE,.opn bw bk cg z)]:=fun b x y u w q=>by
 rcases gj.1 q with q|q
 ·injection q with _ q;injection q with _ _ _ q
  subst q;exact h _ _ _ _ _ (.head _)
 ·cases q
def s6(ba:aU):Prop:=∀a c e,(a,dh.row c e)∉ba
theorem Ed{a:Nat}{c:List Value}{e:TypeId}{r:List Nat}{z:Nat}:s6 [(a,.opn c e r z)]:=fun a c e q=>by
 rcases gj.1 q with q|q
 ·cases q
 ·cases q
theorem R3{c:Call}{t gu e:TypeId}{sz k j:Nat}{fz cells new:List Value}{v x:Value}{ba dV:aU}{dZ:TypeDesc}(ag:o.op=.call c)(aL:c.callee=.builtin .append)(au:o.dst=some d)(aw:Nat.blt d n=true)(aK:hJ l c.args.toList=some [v,x])(pc:c.argTypes.toList=[t,gu])(aM:iY K.P t=some (e,sz,fz))(iS:K.P.underlying gu=some dZ)(rE:∀i,dZ≠.int i)
 (ay:Acc e sz v k cells ba)(hm:m=ba++dV)(U:ko K.g0 B J m sz x j new)(dI:new.length=j*sz)(dP:new.all ev=true)(aA:k+j<=1000000)
 (h:∀w hP,Acc e sz w (k+j) (cells++new) hP->(kn ba->kn hP)/\(s6 ba->s6 hP)->eg ⟨n,ds,(d,w)::l⟩ (hP++dV) J):hU K B o ⟨n,ds,l⟩ m J eg:=by
 obtain⟨hu,dA,gq,z,gJ,a0,br,rfl,bN,cW,dj⟩:=r0 aM;refine hU.wO au aw fun S H ak av=>?_;obtain⟨fy,fF⟩:=U H av;have gd:∀call aE,ct K.P call aE S H o=k1 (nr K.P H t v x):=fun call aE=>by
  rw[xm ag aL];unfold n3;rw[nq ak H aK,pc];simp only[iS]
 have iQ:(!(Nat.ble (k+j) 1000000&&Nat.ble gq 1000000&&Nat.beq z.cells.toList.length sz))=false:=by
  rw[br,bN,gH,show Nat.ble (k+j) 1000000=true from j3 aA];rfl
 have o7:(!(new.all ev&&Nat.beq new.length (j*sz)))=false:=by
  rw[dP,dI,gH];rfl
 subst hm;cases ay with
 |nil=>
  by_cases a5:j=0
  ·subst a5;have lj:new=[]:=by apply pH;rw[dI];simp
   subst lj;refine⟨.slice none 0 0,H,_,J,fun call aE=>?_,av,h _ [] .nil ⟨id,id⟩⟩;rw[gd];unfold nr;simp only[hu,dA,gJ,a0,fy,iQ,da,fF,o7];rfl
  ·obtain⟨H1,aC,aZ⟩:=av.lM new e;refine⟨.slice (some ⟨H.ax,0,none⟩) j cu,H1,(H.ax,.opn new e [] 0)::dV,J,fun call aE=>?_,aZ,?_⟩
   ·rw[gd];unfold nr;simp only[hu,dA,gJ,a0,fy,iQ,da,fF,o7];rw[show Nat.beq 0 cu=false from rfl,da,L6 a5,da];simp only[h1,zf,nV,gH,b1,sb,fresh,aC,nh];rfl
   ·have:=h (.slice (some ⟨H.ax,0,none⟩) j cu) [(H.ax,.opn new e [] 0)] (by rw[nh,sb];exact .opn dI (fB _)) ⟨fun _=>Ky,fun _=>Ed⟩;exact this
 |ik a=>
  by_cases a5:j=0
  ·subst a5;have lj:new=[]:=by apply pH;rw[dI];simp
   subst lj;refine⟨.slice (some ⟨a,0,none⟩) 0 0,H,_,J,fun call aE=>?_,av,h _ [] (.ik a) ⟨id,id⟩⟩;rw[gd];unfold nr;simp only[hu,dA,gJ,a0,fy,iQ,da,fF,o7];rfl
  ·obtain⟨H1,aC,aZ⟩:=av.lM new e;refine⟨.slice (some ⟨H.ax,0,none⟩) j cu,H1,(H.ax,.opn new e [] 0)::dV,J,fun call aE=>?_,aZ,?_⟩
   ·rw[gd];unfold nr;simp only[hu,dA,gJ,a0,fy,iQ,da,fF,o7];rw[show Nat.beq 0 cu=false from rfl,da,L6 a5,da];simp only[h1,zf,nV,gH,b1,sb,fresh,aC,nh];rfl
   ·have:=h (.slice (some ⟨H.ax,0,none⟩) j cu) [(H.ax,.opn new e [] 0)] (by rw[nh,sb];exact .opn dI (fB _)) ⟨fun _=>Ky,fun _=>Ed⟩;exact this
 |@opn a k cells rest z hlen fe=>
  have uj:Nat.ble z (0+k*sz)=true:=j3 (by omega);by_cases a5:j=0
  ·subst a5;have lj:new=[]:=by apply pH;rw[dI];simp
   subst lj;obtain⟨f,H1,bK,cm,cn,e9,fY,fJ,nt⟩:=Inv.grow (m:=dV) av cells;have mK:Nat.blt a H.bp=false:=by
    cases q:Nat.blt a H.bp
    ·rfl
    ·have:a<H.bp:=by simpa[Nat.blt,qY] using q
     have:=(av.own _ _ (.head _)).2.2.2;have:=av.bp;omega
   refine⟨.slice (some ⟨a,0,none⟩) k cu,H,_,J,fun call aE=>?_,av,h _ [(a,.opn cells e rest z)] (by rw[nT,jr];exact .opn hlen fe) ⟨id,id⟩⟩;rw[gd];unfold nr;simp only[hu,dA,gJ,a0,fy,iQ,da,fF,o7,gH,b1,cm,mK,KG,tq,uj,lT];rfl
  ·obtain⟨f,H1,bK,cm,cn,e9,fY,fJ,nt⟩:=Inv.grow (m:=dV) av (cells++new);have mK:Nat.blt a H.bp=false:=by
    cases q:Nat.blt a H.bp
    ·rfl
    ·have:a<H.bp:=by simpa[Nat.blt,qY] using q
     have:=(av.own _ _ (.head _)).2.2.2;have:=av.bp;omega
   refine⟨.slice (some ⟨H.ax,0,none⟩) (k+j) cu,bK,(H.ax,.opn (cells++new) e (a::rest) z)::dV,J,fun call aE=>?_,nt,?_⟩
   ·rw[gd];have HF:Nat.beq j 0=false:=by
     cases q:Nat.beq j 0
     ·rfl
     ·exact absurd (dX q) a5
    have Im:takeN (k*sz) cells=some cells:=by rw[uJ (by omega),ib (by omega)]
    unfold nr;simp only[hu,dA,gJ,a0,fy,iQ,da,fF,o7,gH,b1,cm,mK,KG,tq,uj,lT,HF,Im,cn,tK,hlen,zL,e9,fY,fJ];rfl
   ·exact h (.slice (some ⟨H.ax,0,none⟩) (k+j) cu) [(H.ax,.opn (cells++new) e (a::rest) z)] (.opn (by rw[g1,hlen,dI,iC]) (by rw[g1];omega)) ⟨afd,fun _=>Ed⟩
 |@cap a k C cells full el hg nw N2 il=>
  have Oa:Nat.beq C cu=false:=by
   cases q:Nat.beq C cu
   ·rfl
   ·have:=dX q;omega
  have kV:H.mem.get a=some (.row full el false 0 0 false):=(av.own a (.row full el) (.head _)).1;have Ai:cells.length=k*sz:=by rw[<-nw,gp,hg,g9 (lY _ N2)]
  have XV:Nat.blt a H.bp=false:=by
   cases q:Nat.blt a H.bp
   ·rfl
   ·have:a<H.bp:=by simpa[Nat.blt,qY] using q
    have:=(av.own _ _ (.head _)).2.2.2;have:=av.bp;omega
  by_cases lh:k+j<=C
  ·have vW:k*sz+new.length<=full.length:=by rw[dI,hg,<-iC];exact lY _ lh
   have kB:=EL (k*sz) full new vW;have dM:∃H1,o0 H a (0+k*sz) new=some H1/\∃xy,Inv K.g0 B J ((a,.row xy el)::dV) H1/\xy.length=C*sz/\xy.take ((k+j)*sz)=cells++new:=by
    cases p':new with
    |nil=>
     have aX:j*sz=0:=by rw[<-dI,p'];rfl
     exact⟨H,rfl,full,av,hg,by rw[iC,aX,nT,nw,jr]⟩
    |cons gN xs=>
     obtain⟨H1,aC,aZ⟩:=av.store (cells':=full.take (k*sz)++new++full.drop (k*sz+new.length)) (.head _ _ _ _);refine⟨H1,?_,_,aZ,?_,?_⟩
     ·rw[<-p']
      have:o0 H a (0+k*sz) new=(bif Nat.blt a H.bp then none else match H.mem.get a with
       |some (.row cells elem opn bl dS sh)=>bif Nat.ble dS (0+k*sz)&&new.all ev then(match fO (0+k*sz) cells new with
        |none=>none
        |some cells=>match H.upd a (.row cells elem opn bl dS sh) with
         |none=>none
         |some H=>bif opn then uq H a bl else some H) else none
       |_=>none):=by rw[p'];rfl
      rw[this];simp only[XV,da,kV,nh,kB,aC,dP,B9,Nat.ble,b1]
     ·simp only[g1,gp,r'];omega
     ·rw[r9,List.take_append,nw,ib (by rw[Ai,iC];omega),List.take_append,ib (by rw[Ai,dI,iC];omega),Ai,dI,iC,show k*sz+j*sz -k*sz -j*sz=0 by omega,nS,jr];exact aj _ p'
   obtain⟨H1,aC,xy,aZ,cJ,eo⟩:=dM;refine⟨.slice (some ⟨a,0,none⟩) (k+j) C,H1,(a,.row xy el)::dV,J,fun call aE=>?_,aZ,h _ [(a,.row xy el)] (.cap cJ eo lh il) ⟨fun _=>afe,fun q=>absurd (.head _) (q _ _ _)⟩⟩;rw[gd];unfold nr;simp only[hu,dA,gJ,a0,fy,iQ,da,fF,o7,Oa,show Nat.ble (k+j) C=true from j3 lh,b1,aC];rfl
  ·obtain⟨H1,aC,aZ⟩:=av.lM (cells++new) e;have vN:Nat.ble (k+j) C=false:=by
    cases q:Nat.ble (k+j) C
    ·rfl
    ·have:=gy q;omega
   have hold:h1 H sz k (.slice (some ⟨a,0,none⟩) k C)=some cells:=by
    cases k with
    |zero=>
     rw[nV,nS] at nw;subst nw;rfl
    |succ k=>
     simp only[h1,kV];rw[tL,kJ,uJ (by rw[hg];exact lY _ N2),nw]
   refine⟨.slice (some ⟨H.ax,0,none⟩) (k+j) cu,H1,(H.ax,.opn (cells++new) e [] 0)::dV,J,fun call aE=>?_,aZ.sub (.cons_cons _ (.cons _ (.refl _))),h _ [(H.ax,.opn (cells++new) e [] 0)] (.opn (by rw[g1,Ai,dI,iC]) (fB _)) ⟨fun _=>Ky,fun _=>Ed⟩⟩;rw[gd];unfold nr;simp only[hu,dA,gJ,a0,fy,iQ,da,fF,o7,Oa,vN,uw,hold,Ai,gH,b1,fresh,aC];rfl
theorem ae6{c:Call}{t gu e:TypeId}{sz k j:Nat}{fz cells new:List Value}{v x:Value}{ba dV:aU}{dZ:TypeDesc}(ag:o.op=.call c)(aL:c.callee=.builtin .append)(au:o.dst=some d)(aw:Nat.blt d n=true)(aK:hJ l c.args.toList=some [v,x])(pc:c.argTypes.toList=[t,gu])(aM:iY K.P t=some (e,sz,fz))(iS:K.P.underlying gu=some dZ)(rE:∀i,dZ≠.int i)
 (ay:Acc e sz v k cells ba)(hm:m=ba++dV)(U:ko K.g0 B J m sz x j new)(dI:new.length=j*sz)(dP:new.all ev=true)(aA:k+j<=1000000)
 (h:∀w hP,Acc e sz w (k+j) (cells++new) hP->eg ⟨n,ds,(d,w)::l⟩ (hP++dV) J):hU K B o ⟨n,ds,l⟩ m J eg:=
 R3 ag aL au aw aK pc aM iS rE ay hm U dI dP aA fun w hP q _=>h w hP q
end
section
variable {K:dG}{B:dt}{o:Oper}{n:Nat}{ds:dQ}{l:List (Nat×Value)}{m m':aU}{J:an}{eg:b3->aU->an->Prop}{d:Nat}
theorem ad.cut{c:Code}{E:b3}{L:List (Nat×Value)}{M:aU}{bq:an}{cB:Exit->b3->aU->an->Prop}(aa:ad K B c E m J fun e E' m' ae=>match e with
 |.normal=>(∃l',E'=⟨n,ds,l'⟩/\mg l' L)/\M.Sublist m'/\ae=bq
 |e=>cB e E' m' ae)(ab:cB .normal ⟨n,ds,L⟩ M bq):ad K B c E m J cB:=by
 intro S H ak av;obtain⟨e,aB,H',E',cE,ae,a9,a4,bJ,cx⟩:=aa S H ak av;cases e with
 |normal=>
  obtain⟨⟨l',rfl,fL⟩,iT,rfl⟩:=cx;exact⟨_,aB,H',_,M,_,a9,a4.sub fL,bJ.sub iT,ab⟩
 |exit i=>exact⟨_,aB,H',_,_,_,a9,a4,bJ,cx⟩
 |goto i=>exact⟨_,aB,H',_,_,_,a9,a4,bJ,cx⟩
 |ret=>exact⟨_,aB,H',_,_,_,a9,a4,bJ,cx⟩
 |panic c=>exact⟨_,aB,H',_,_,_,a9,a4,bJ,cx⟩
 |outgrown=>exact⟨_,aB,H',_,_,_,a9,a4,bJ,cx⟩
theorem rc{t:Nat}{p:Prop}[Decidable p](h:look l t=some (.bool true))(ao:p):look l t=some (.bool (decide p)):=by rw[h,g2 ao]
theorem ra{t:Nat}{p:Prop}[Decidable p](h:look l t=some (.bool false))(ao:¬p):look l t=some (.bool (decide p)):=by rw[h,e8 ao]
theorem rb{t:Nat}{p q:Prop}[Decidable p][Decidable q](h:look l t=some (.bool (decide q)))(ao:q↔p):look l t=some (.bool (decide p)):=by rw[h];simp[ao]
theorem q'{t:Nat}{p:Prop}[Decidable p]{b:Bool}(h:look l t=some (.bool b))(ao:b=true↔p):look l t=some (.bool (decide p)):=by rw[h];congr 2;rw[nM];simp[ao]
def tE (l:List (Nat×Value))(d:Int):Option Operand->Option Int
 |none=>some d
 |some x=>match bH l x with|some (.int _ i)=>some i|_=>none
theorem F1{S:aT}(ak:Sat ⟨n,ds,l⟩ S)(H:ai){dl i:Int}{x:Option Operand}(h:tE l dl x=some i):(x=none/\i=dl/\g4 S.T H x=some none)\/(∃k y,x=some y/\bH l y=some (.int k i)/\g4 S.T H x=some (some (.int k i))):=by
 cases x with
 |none=>injection h with h;exact .inl ⟨rfl,h.symm,rfl⟩
 |some y=>
  right
  simp only[tE] at h;split at h
  ·rename_i k j a5;injection h with h;subst h
   exact⟨k,y,rfl,a5,by simp only[g4];rw[c1 ak H a5]⟩
  ·cases h
theorem vc{S:aT}(ak:Sat ⟨n,ds,l⟩ S)(H:ai){dl i:Int}{x:Option Operand}{ij top:Nat}(h:tE l dl x=some i)(aX:0<=i)(aa:i<=top)(au:dl=ij):∃pt,g4 S.T H x=some pt/\jy ij top pt=some i.toNat:=by
 rcases F1 ak H h with⟨rfl,rfl,q⟩|⟨k,y,rfl,aF,q⟩
 ·refine⟨none,q,?_⟩;rw[au];rfl
 ·exact⟨_,q,AZ aX aa⟩
theorem R4{t e:TypeId}{x:Operand}{gE ar:Option Operand}{v:Value}{k sz:Nat}{fz cs:List Value}{a b:Int}(ag:o.op=.slice t x gE ar none)(au:o.dst=some d)(aw:Nat.blt d n=true)(U:bH l x=some v)(aM:iY K.P t=some (e,sz,fz))(ay:ey J e sz v k cs)(hk:0<k)(hM:tE l 0 gE=some a)(kd:tE l k ar=some b)(aX:0<=a)(aa:a<=b)(ab:b<=k)
 (h:∀w,ey J e sz w (b -a).toNat ((cs.drop (a.toNat*sz)).take ((b -a).toNat*sz))->eg ⟨n,ds,(d,w)::l⟩ m J):hU K B o ⟨n,ds,l⟩ m J eg:=by
 obtain⟨hu,dA,gq,z,gJ,a0,br,rfl,bN,cW,dj⟩:=r0 aM;refine hU.wO au aw fun S H ak av=>?_;cases ay with
 |nil=>exact absurd hk (by omega)
 |ik a off cap h=>exact absurd hk (by omega)
 |tN=>exact absurd hk (by omega)
 |@row hX off k cap cells cs bk cX cM fo ix qA=>
  obtain⟨ol,Jj,wi⟩:=vc (ij:=0) (top:=b.toNat) ak H hM aX (by omega) rfl;have gd:∀w,jN K.P H t (.slice (some ⟨hX,off,none⟩) k cap) ol (match g4 S.T H ar with|some x=>x|none=>none)=some w->∀call aE,ct K.P call aE S H o=some (.val w H):=fun w hw call aE=>by
   unfold ct eA;simp only[ag];show lN K.P _ t (aW S.T H x) (g4 S.T H gE) (g4 S.T H ar)=_;rw[c1 ak H U,Jj];rcases F1 ak H kd with⟨_,_,q⟩|⟨_,_,_,_,q⟩
   ·rw[q] at hw ⊢;unfold lN;simp only;rw[show jN K.P H t (.slice (some ⟨hX,off,none⟩) k cap) ol none=some w from hw];rfl
   ·rw[q] at hw ⊢;unfold lN;simp only;rw[show jN K.P H t (.slice (some ⟨hX,off,none⟩) k cap) ol _=some w from hw];rfl
  have hlen:k*sz<=(cells.drop off).length:=by
   have:((cells.drop off).take (k*sz)).length=k*sz:=by rw[cM];exact fo
   rw[gp] at this;omega
  have aC:(b -a).toNat=b.toNat -a.toNat:=by omega
  have hle:a.toNat*sz+(b -a).toNat*sz<=k*sz:=by
   rw[<-iC];exact lY _ (by omega)
  have iq:(cells.drop (off+a.toNat*sz)).take ((b -a).toNat*sz)=(cs.drop (a.toNat*sz)).take ((b -a).toNat*sz):=by
   rw[<-cM,Fi,tw,ze,g9 (by omega)]
  have kc:((cs.drop (a.toNat*sz)).take ((b -a).toNat*sz)).length=(b -a).toNat*sz:=by
   rw[gp,r',fo];omega
  obtain⟨Jl,of,abO,os,cc⟩:=av.dB _ _ _ cX;by_cases aL:cap=cu
  ·subst aL;obtain⟨Bt,qp,qq⟩:=vc (ij:=k) (top:=k) ak H kd (by omega) (by omega) rfl;refine⟨.slice (some ⟨hX,off+a.toNat*sz,none⟩) (b -a).toNat cu,H,m,J,gd _ ?_,av,h _ (.row cX iq kc (fun q=>absurd rfl q) qA)⟩;rw[qp];unfold jN;simp only[hu,dA,gH,b1,cc,qA rfl,qq,wi,lT,da];rw[aC];rfl
  ·obtain⟨Bt,qp,qq⟩:=vc (ij:=k) (top:=cap) ak H kd (by omega) (by have:=(ix aL).1;omega) rfl;have Ah:Nat.beq cap cu=false:=by
    cases q:Nat.beq cap cu
    ·rfl
    ·exact absurd (dX q) aL
   by_cases p1:cap=a.toNat
   ·have fe:(b -a).toNat=0:=by have:=(ix aL).1;omega
    refine⟨.slice (some ⟨hX,off,none⟩) (b -a).toNat (cap -a.toNat),H,m,J,gd _ ?_,av,h _ ?_⟩
    ·rw[qp];unfold jN;simp only[hu,dA,Ah,da,qq,wi];rw[show Nat.beq cap a.toNat=true by rw[p1];exact gH _,b1,aC];rfl
    ·have:(cs.drop (a.toNat*sz)).take ((b -a).toNat*sz)=[]:=by rw[fe];simp
     rw[this,fe,p1,sf];exact .ik _ _ _ (by decide)
   ·refine⟨.slice (some ⟨hX,off+a.toNat*sz,none⟩) (b -a).toNat (cap -a.toNat),H,m,J,gd _ ?_,av,h _ (.row cX iq kc (fun _=>⟨by have:=(ix aL).1;omega,by have:=(ix aL).2;omega⟩) (fun q=>?_))⟩
    ·rw[qp];unfold jN;simp only[hu,dA,Ah,da,qq,wi];have:Nat.beq cap a.toNat=false:=by
      cases q:Nat.beq cap a.toNat
      ·rfl
      ·exact absurd (dX q) p1
     rw[this,da,aC];rfl
    ·have:=(ix aL).2;omega
end
end
end Go.Opn
