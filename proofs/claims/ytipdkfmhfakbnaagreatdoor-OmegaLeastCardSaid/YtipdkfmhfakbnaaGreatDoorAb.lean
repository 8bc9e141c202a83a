/- Plain theorems and definitions of this seat, several texts in one. -/
import Derived.Test.YtipdkfmhfakbnaaGreatDoorAa
set_option linter.unusedVariables false
set_option linter.unusedSimpArgs false
set_option linter.unusedSectionVars false
namespace Go.Q
open Go Go.RowKit Go.X
variable [fq]
section
variable {P:Program} {tb:List (dU P)} {ty:TypeId} {L:SS} {sv:Option Sv} {ef:Ef} {e:Env} {w:World}
theorem gL{t:Nat}{T:dU P}(h:cP tb t=some T):P.underlying t=some T.d:=by rw[<-Ai h];exact T.hd
theorem gu{t:Nat}{T:dU P}(h:cP tb t=some T):TI P t T.sz T.qV T.z:=by rw[<-Ai h];exact T.ti
theorem beq0{n:Nat}(h:Nat.beq n 0=false):(n==0)=false:=by
 cases n with
 |zero=>cases h
 |succ n=>rfl
theorem uW{ν:Nu}{H:Bool->Hp}{g:Bool}{sz off:Nat}{l:List Lf}{vs:List Value}{s:S1}(h:te g sz l off=some s)(hl:dd ν H l vs):
 (g=false/\∃v,vs[off]?=some v/\s.R ν H v)\/(g=true/\∃us,us.length=sz/\(vs.drop off).take us.length=us/\s.R ν H (.agg us.toArray)):=by
 unfold te at h;split at h
 . split at h
   . rename_i hb;cases h;have e1:=dV hb;have h1:=(hl.drop off).take sz;have h2:=h1.length;refine .inr ⟨rfl,_,h2.trans e1,?_,_,rfl,h1⟩;rw[h2,e1]
   . cases h
 . split at h
   . rename_i x hx;cases h;obtain⟨y,g1,g2⟩:=hl.get hx;exact .inl ⟨rfl,y,g1,g2⟩
   . cases h
theorem HV{ν:Nu}{j off:Nat}{l:List Lf}{v:Value}{H:Bool->Hp}(hO:∀i ob,aT L.bI i=some ob->∃b c n k,ν i=some (b,c,n)/\dN w b k/\ob.R ν H c n k)(hp:Lf.R ν H (.ptr j off) v)(ho:aT L.bI j=some (.box l)):
 ∃b vs,v=.pointer (some ⟨b,off,none⟩)/\dN w (some b) (.cells vs)/\dd ν H l vs:=by
 obtain⟨b,c,h1,h2⟩:=hp;obtain⟨b',c',n',k,g1,g2,vs,g3,g4⟩:=hO j _ ho;rw[h1]at g1;cases g1;subst g3;exact⟨b,vs,h2,g2,g4⟩
theorem M6{ν:Nu}{H:Bool->Hp}{sz:Nat}(hS:dI ν H (aT L.bX) e):∀{parts:List (Nat×Operand)} {l:List Lf} (k:Nat),arC L sz parts=some l->BG k parts=true->
 ∃(vs:List Value) (css:List (List Value)),(parts.map λp=>(p.1,ev e p.2))=mo k vs/\tK sz vs css/\dd ν H l css.flatten/\vs.length=parts.length
 |[],_,k,h,_=>by cases h;exact⟨[],[],rfl,trivial,rfl,rfl⟩
 |(i,x)::r,_,k,h,hn=>by
  simp only[arC]at h;simp only[BG,fZ]at hn;split at h
  . rename_i s hx;split at h
    . rename_i hb;split at h
      . rename_i y hy;cases h;obtain⟨us,u1,u2⟩:=sD (du hS hx);obtain⟨vs,css,g1,g2,g3,g4⟩:=M6 hS (k+1) hy hn.2;have e1:us.length=sz:=by rw[u2.length];exact dV hb
        have e2:=dV hn.1;subst e2;exact⟨ev e x::vs,us::css,by simp only[kz,g1,mo],⟨u1,e1,g2⟩,u2.append g3,by simp[g4]⟩
      . cases h
    . cases h
  . cases h
theorem JG:∀{fs:List Field} {pl:List (Nat×Nat)},pls tb fs=some pl->placesOf P fs=some pl
 |[],_,h=>by cases h;rfl
 |f::r,_,h=>by
  simp only[pls]at h;split at h
  . rename_i F hF;split at h
    . rename_i y hy;cases h;obtain⟨i,h1,h2,_⟩:=gu hF;have:=JG hy;unfold placesOf at this⊢;simp only[ND,h1,o6,this,h2];rfl
    . cases h
  . cases h
theorem KL{ν:Nu}{H:Bool->Hp}{pl:List (Nat×Nat)}(hS:dI ν H (aT L.bX) e):∀{parts:List (Nat×Operand)} {l l':List Lf} {cs:List Value},Cq L pl parts l=some l'->dd ν H l cs->
 ∃(is:List Nat) (vs:List Value) (css:List (List Value)) (cs':List Value),(parts.map λp=>(p.1,ev e p.2))=is.zip vs/\is.length=vs.length/\Az vs css/\rZ pl cs (is.zip css)=some cs'/\dd ν H l' cs'
 |[],l,_,cs,h,hl=>by cases h;exact⟨[],[],[],cs,rfl,rfl,trivial,rfl,hl⟩
 |(i,x)::r,l,_,cs,h,hl=>by
  simp only[Cq]at h;split at h
  . rename_i s hx;split at h
    . rename_i off size hp;split at h
      . rename_i hb;simp only[fZ]at hb;obtain⟨us,u1,u2⟩:=sD (du hS hx);obtain⟨is,vs,css,cs',g1,g2,g3,g4,g5⟩:=KL hS h (hl.put u2);refine⟨i::is,ev e x::vs,us::css,cs',by simp[g1],by simp[g2],⟨u1,g3⟩,?_,g5⟩;simp only[NJ,rZ,hp];have e1:Nat.beq us.length size=true:=by rw[u2.length];exact hb.1
        have e2:Nat.blt cs.length (off+us.length)=false:=by
         have h2:=kR hb.2;rw[<-u2.length,<-hl.length]at h2;cases hb2:Nat.blt cs.length (off+us.length)with
         |false=>rfl
         |true=>have h3:cs.length+1<=off+us.length:=kR hb2;omega
        rw[e1,e2];exact g4
      . cases h
    . cases h
  . cases h
theorem au_ok{op:Op}(h:au tb L op=some (ef,sv)):LT P L op ty ef sv:=by
 cases op with
 |move x=>
  simp only[au]at h;split at h
  . rename_i s hx;cases h;exact LT.look λν H e w hv ht hO hS=>aG.move rfl ⟨rfl,du hS hx⟩
  . cases h
 |assign x=>
  simp only[au]at h;split at h
  . rename_i s hx;cases h;exact LT.look λν H e w hv ht hO hS=>aG.assign rfl ⟨rfl,du hS hx⟩
  . cases h
 |pick c a b=>
  simp only[au]at h;split at h
  . rename_i hc;split at h
    . rename_i s hx;cases h;exact LT.look λν H e w hv ht hO hS=>aG.Si (eY hS hc).1 rfl rfl ⟨rfl,du hS hx⟩
    . cases h
  . rename_i hc;split at h
    . rename_i s hx;cases h;exact LT.look λν H e w hv ht hO hS=>aG.Q0 (eY hS hc).1 rfl rfl ⟨rfl,du hS hx⟩
    . cases h
  . cases h
 |binOp op t x y u=>
  simp only[au]at h;split at h
  . rename_i a hx;split at h
    . rename_i b hy;split at h
      . rename_i v hv;cases h;exact LT.look λν H e w _ ht hO hS=>Qt hv (eY hS hx).1 (eY hS hy).1 λho=>⟨rfl,rfl,ho⟩
      . cases h
    . cases h
  . cases h
 |unOp op t x=>
  simp only[au]at h;split at h
  . rename_i a hx;split at h
    . rename_i v hv;cases h;exact LT.look λν H e w _ ht hO hS=>O0 hv (eY hS hx).1 λho=>⟨rfl,rfl,ho⟩
    . cases h
  . cases h
 |extract x i=>
  simp only[au]at h;split at h
  . rename_i l hx;split at h
    . rename_i s hg;cases h;refine LT.look λν H e w hv ht hO hS=>?_;obtain⟨vs,h1,h2⟩:=du hS hx;obtain⟨y,g1,g2⟩:=h2.get hg;exact aG.extract h1 g1 ⟨rfl,g2⟩
    . cases h
  . cases h
 |nilCheck x=>
  simp only[au]at h;split at h
  . rename_i j off hx;cases h;refine LT.look λν H e w hv ht hO hS=>?_;obtain⟨b,c,h1,h2⟩:=du hS hx;exact aG.nilCheck h2 ⟨rfl,b,c,h1,rfl⟩
  . rename_i κ c off hx;cases h;refine LT.look λν H e w hv ht hO hS=>?_;obtain⟨b,o,vs,h1,h2,h3⟩:=du hS hx;exact aG.nilCheck h1 ⟨rfl,b,o,vs,rfl,h2,h3⟩
  . cases h
 |field t x i=>
  simp only[au]at h;split at h
  . rename_i T hT;split at h
    . rename_i fs hd;split at h
      . rename_i f hf;split at h
        . rename_i F hF;split at h
          . rename_i l hx;split at h
            . rename_i s hc;cases h;have hu:=gL hT;rw[hd]at hu;refine LT.look λν H e w hv ht hO hS=>?_;obtain⟨vs,h1,h2⟩:=du hS hx;rcases uW hc h2 with⟨hg,v,k1,k2⟩|⟨hg,us,k0,k1,k2⟩
              . exact aG.Ti hu hf (gL hF) hg h1 k1 ⟨rfl,k2⟩
              . exact aG.Rj hu hf (gL hF) hg (gu hF) h1 (by rw[<-k0];exact k1) ⟨rfl,k2⟩
            . cases h
          . cases h
        . cases h
      . cases h
    . cases h
  . cases h
 |fieldAddr s x i=>
  simp only[au]at h;split at h
  . rename_i T hT;split at h
    . rename_i fs hd;split at h
      . rename_i f hf;split at h
        . rename_i F hF;split at h
          . cases h
          . rename_i hz;have hz':=beq0 hz;have hu:=gL hT;rw[hd]at hu;split at h
            . rename_i j off hx;cases h;refine LT.look λν H e w hv ht hO hS=>?_;obtain⟨b,c,g1,g2⟩:=du hS hx;exact aG.fieldAddr hu hf (gu hF) hz' g2 rfl ⟨rfl,b,c,g1,rfl⟩
            . rename_i κ c off hx;cases h;refine LT.look λν H e w hv ht hO hS=>?_;obtain⟨b,o,vs,g1,g2,g3⟩:=du hS hx;exact aG.fieldAddr hu hf (gu hF) hz' g1 rfl ⟨rfl,b,o,vs,by rw[qm],g2,g3⟩
            . rename_i j r xs a ix off hx;cases h;refine LT.look λν H e w hv ht hO hS=>?_;obtain⟨b,c,n,g1,g2,g3,g4⟩:=du hS hx;exact aG.fieldAddr hu hf (gu hF) hz' g4 rfl ⟨rfl,b,c,n,g1,g2,g3,by rw[qm]⟩
            . rename_i j r κ xs a ix off hx;cases h;refine LT.look λν H e w hv ht hO hS=>?_;obtain⟨b,c,n,m,g1,g2,g3,g4⟩:=du hS hx;rcases g4 with⟨g4,b',g5,g6⟩|⟨g4,b',o,vs,g5,g6,g7⟩
              . exact aG.fieldAddr hu hf (gu hF) hz' g6 rfl ⟨rfl,b,c,n,m,g1,g2,g3,.inl ⟨g4,b',g5,by rw[qm]⟩⟩
              . exact aG.fieldAddr hu hf (gu hF) hz' g5 rfl ⟨rfl,b,c,n,m,g1,g2,g3,.inr ⟨g4,b',o,vs,by rw[qm],g6,g7⟩⟩
            . cases h
        . cases h
      . cases h
    . cases h
  . cases h
 |load t x=>
  simp only[au]at h;split at h
  . rename_i T hT;split at h
    . rename_i j off hx;split at h
      . rename_i l ho;split at h
        . rename_i s hc;cases h;refine LT.look λν H e w hv ht hO hS=>?_;obtain⟨b,vs,g1,g2,g4⟩:=HV hO (du hS hx) ho;rcases uW hc g4 with⟨hg,v,k1,k2⟩|⟨hg,us,k0,k1,k2⟩
          . exact aG.IK (gL hT) hg g1 g2 k1 ⟨rfl,k2⟩
          . exact aG.GZ (gL hT) hg (gu hT) g1 g2 k0 k1 ⟨rfl,k2⟩
        . cases h
      . cases h
    . rename_i κ c off hx;split at h
      . rename_i s hc;cases h;refine LT.look λν H e w hv ht hO hS=>?_;obtain⟨b,o,vs,g1,g2,g3⟩:=du hS hx;rcases uW hc g3 with⟨hg,v,k1,k2⟩|⟨hg,us,k0,k1,k2⟩
        . refine aG.M3 (H:=H κ) (v:=v) (gL hT) hg g1 (hv κ) ?_ ⟨rfl,k2⟩;refine g2.part off ?_;have hlt:=(ep.1 k1).1;rw[fJ hlt];have:=(ep.1 k1).2;simp[this]
        . exact aG.KG (H:=H κ) (gL hT) hg (gu hT) g1 k0 (hv κ) (g2.part off k1) ⟨rfl,k2⟩
      . cases h
    . cases h
  . cases h
 |store t x y=>
  simp only[au]at h;split at h
  . rename_i T hT;split at h
    . rename_i j off hx;split at h
      . rename_i s hy;split at h
        . rename_i l ho;split at h
          . rename_i hb;cases h;rw[fZ]at hb;have hb1:=dV hb.1;have hb2:=kR hb.2;refine LT.md ho λν H e w b c n k0 hv ht hO hS q1 q2 q3=>?_;obtain⟨vs,rfl,g4⟩:=q3;obtain⟨b',c',g1,g2⟩:=du hS hx;rw[q1]at g1;cases g1;obtain⟨us,k1,k2⟩:=sD (du hS hy);have hul:=k2.length;have hvl:=g4.length;refine aG.store (gu hT) g2 rfl k1 (by omega) k2.fH (jD q2) 0 rfl rfl (by omega) λw' h1 h2=>?_;exact⟨_,h1,λH' hH=>⟨_,rfl,(g4.mono (fk.refl ν) hH).put (k2.mono (fk.refl ν) hH)⟩⟩
          . cases h
        . cases h
      . cases h
    . cases h
  . cases h
 |alloc t=>
  simp only[au]at h;split at h
  . rename_i T hT;split at h
    . rename_i ho;have e1:=dz Prod.fst (jh h);have e2:=dz Prod.snd (jh h);dsimp only at e1 e2;subst e1;subst e2;refine LT.nw λν H e w hv ht hO hS=>?_;exact aG.alloc (cs:=T.z.cells.toList) (gu hT) (by simp) oc λb w' h1 h2=>⟨some b,0,0,_,h1,λν' H' _ _=>⟨_,rfl,qL ho⟩,λν' H' _ _ hn=>⟨b,(0,0),hn,rfl⟩⟩
    . cases h
  . cases h
 |box t x=>
  simp only[au]at h;split at h
  . rename_i s hx;have e1:=dz Prod.fst (jh h);have e2:=dz Prod.snd (jh h);dsimp only at e1 e2;subst e1;subst e2;refine LT.nw λν H e w hv ht hO hS=>?_;obtain⟨vs,k1,k2⟩:=sD (du hS hx);exact aG.box rfl k1 oc λb w' h1 h2=>⟨some b,0,0,_,h1,λν' H' hν hH=>⟨_,rfl,k2.mono hν hH⟩,λν' H' _ _ hn=>⟨b,(0,0),hn,rfl⟩⟩
  . cases h
 |convert s t x=>
  simp only[au]at h;split at h
  . rename_i A hA;split at h
    . rename_i T hT;split at h
      . rename_i k' hd;split at h
        . rename_i k z hx;cases h;have hu:=gL hT;rw[hd]at hu;exact LT.look λν H e w hv ht hO hS=>aG.RH (gL hA) hu (eY hS hx).1 rfl ⟨rfl,rfl,rfl⟩
        . cases h
      . cases h
    . cases h
  . cases h
 |call c=>
  obtain⟨callee,args,ats⟩:=c;simp only[au]at h;split at h
  . rename_i hc;split at h
    . rename_i x hx;split at h
      . rename_i t ht;obtain rfl:args=#[x]:=by rw[<-ua (xs:=args)];exact dz _ hx
        obtain rfl:ats=#[t]:=by rw[<-ua (xs:=ats)];exact dz _ ht
        split at h
        . rename_i T hT;split at h
          . rename_i el hd;have hu:=gL hT;rw[hd]at hu;split at h
            . rename_i α r κ xs ho;cases h;exact LT.look λν H e w hv ht hO hS=>aG.Ee hu rfl (du hS ho) ⟨rfl,rfl,rfl⟩
            . rename_i α i r κ xs ho;cases h;refine LT.look λν H e w hv ht hO hS=>?_;obtain⟨b,c,n,h1,h2⟩:=du hS ho;rcases h2 with⟨e1,e2,e3⟩|⟨e1,e2,_⟩
              . cases b with
                |none=>
                 have hx:=e2 rfl;subst hx;exact aG.L4 hu e3 ⟨rfl,rfl,rfl⟩
                |some b=>exact aG.Iw hu e3 (by rw[e1]) ⟨rfl,rfl,rfl⟩
              . exact aG.Ee hu rfl e2 ⟨rfl,rfl,rfl⟩
            . rename_i α r κ xs ho;cases h;exact LT.look λν H e w hv ht hO hS=>aG.Ee hu rfl (And.left (du hS ho)) ⟨rfl,rfl,rfl⟩
            . rename_i i ho;split at h
              . rename_i α r κ xs hi;cases h;refine LT.look λν H e w hv ht hO hS=>?_;obtain⟨b,c,n,h1,h2⟩:=du hS ho;obtain⟨b',c',n',k,g2,g1,g3,g0,cs,sp,g4,g5,g6⟩:=hO i _ hi;rw[h1]at g2;cases g2;subst g4;exact aG.T1 (pre:=[]) (r:=r) (xs:=xs) hu h2 g1 g5 g0 g3 ⟨rfl,rfl,rfl⟩
              . cases h
            . rename_i ho;cases h;exact LT.look λν H e w hv ht hO hS=>aG.L4 hu (du hS ho).1 ⟨rfl,rfl,rfl⟩
            . rename_i sz lo hi ho;cases h;refine LT.look λν H e w hv ht hO hS=>?_;obtain⟨b,c,m,k,cp,_,e1,e2,e3,e4⟩:=du hS ho;exact aG.Iw hu e4 (by omega) ⟨rfl,rfl,rfl⟩
            . cases h
          . rename_i hd;have hu:=gL hT;rw[hd]at hu;split at h
            . rename_i l ho;cases h;exact LT.look λν H e w hv ht hO hS=>aG.QB (s:=l) hu (eY hS ho).1 ⟨rfl,rfl,rfl⟩
            . cases h
          . rename_i kt et hd;have hu:=gL hT;rw[hd]at hu;split at h
            . rename_i i ho;split at h
              . rename_i K V dk kf vf m hi;cases h;refine LT.look λν H e w hv ht hO hS=>?_;obtain⟨b,c,h1,h2⟩:=du hS ho;obtain⟨b',c',n',k,g2,g1,g3⟩:=hO i _ hi;rw[h1]at g2;cases g2;have g3:k=kF kf vf m:=g3;subst g3;exact aG.Qj (kf:=kf) (vf:=vf) hu h2 g1 ⟨rfl,rfl,rfl⟩
              . cases h
            . cases h
          . cases h
        . cases h
      . cases h
    . cases h
  . rename_i hc;split at h
    . rename_i x y hx;obtain rfl:args=#[x,y]:=by rw[<-ua (xs:=args)];exact dz _ hx
      split at h
      . rename_i k a ho;split at h
        . rename_i k' b hy;cases h;exact LT.look λν H e w hv ht hO hS=>aG.min (eY hS ho).1 (eY hS hy).1 ⟨rfl,rfl,rfl⟩
        . cases h
      . cases h
    . cases h
  . rename_i hc;split at h
    . rename_i x y hx;obtain rfl:args=#[x,y]:=by rw[<-ua (xs:=args)];exact dz _ hx
      split at h
      . rename_i k a ho;split at h
        . rename_i k' b hy;cases h;exact LT.look λν H e w hv ht hO hS=>aG.max (eY hS ho).1 (eY hS hy).1 ⟨rfl,rfl,rfl⟩
        . cases h
      . cases h
    . cases h
  . cases h
 |indexAddr t x y=>
  simp only[au]at h;split at h
  . rename_i T hT;split at h
    . rename_i n el hd;split at h
      . rename_i E hE;split at h
        . rename_i k i hy;split at h
          . rename_i hi;have hu:=gL hT;rw[hd]at hu;have hlt:i<n:=by simpa using hi
            split at h
            . rename_i j off hx;cases h;refine LT.look λν H e w hv ht hO hS=>?_;obtain⟨b,c,h1,h2⟩:=du hS hx;exact aG.Ex hu (gu hE) h2 (eY hS hy).1 hlt rfl ⟨rfl,b,c,h1,rfl⟩
            . rename_i κ c off hx;cases h;refine LT.look λν H e w hv ht hO hS=>?_;obtain⟨b,o,vs,h1,h2,h3⟩:=du hS hx;exact aG.Ex hu (gu hE) h1 (eY hS hy).1 hlt rfl ⟨rfl,b,o,vs,by rw[qm],h2,h3⟩
            . rename_i j r xs a ix off hx;cases h;refine LT.look λν H e w hv ht hO hS=>?_;obtain⟨b,c,n,g1,g2,g3,g4⟩:=du hS hx;exact aG.Ex hu (gu hE) g4 (eY hS hy).1 hlt rfl ⟨rfl,b,c,n,g1,g2,g3,by rw[qm]⟩
            . cases h
          . cases h
        . cases h
      . cases h
    . cases h
  . cases h
 |build t parts=>
  simp only[au]at h;split at h
  . rename_i T hT;split at h
    . rename_i fs hd;split at h
      . rename_i pl hp;split at h
        . rename_i ho;split at h
          . rename_i l hl;cases h;have hu:=gL hT;rw[hd]at hu;refine LT.look λν H e w hv ht hO hS=>?_;obtain⟨is,vs,css,cs',g1,g2,g3,g4,g5⟩:=KL hS hl (qL ho);have hpl:A8 P t=some pl:=by unfold A8;rw[hu];exact JG hp
            have:=aG.build (ty:=ty) (ρ:=ev e) (w:=w) (R:=λv w'=>w'=w/\(Sv.s (.agg l)).R ν H v) hpl (gu hT) (by simp) g1 g2 g3 g4 ⟨rfl,cs',rfl,g5⟩;simpa using this
          . cases h
        . cases h
      . cases h
    . rename_i n el hd;split at h
      . rename_i E hE;split at h
        . rename_i hsz;have hsz:=dV hsz;have hu:=gL hT;rw[hd]at hu;split at h
          . rename_i hp;split at h
            . rename_i ho;cases h;obtain rfl:parts=#[]:=by rw[<-ua (xs:=parts)];exact dz _ hp
              exact LT.look λν H e w hv ht hO hS=>aG.Rt (zc:=T.z.cells.toList) hu (gu hT) (by simp) (gu hE) ⟨rfl,_,rfl,qL ho⟩
            . cases h
          . rename_i p ps hp;split at h
            . rename_i hn;split at h
              . rename_i l hl;cases h;rw[fZ]at hn;have hn2:=dV hn.2;obtain rfl:parts=(p::ps).toArray:=by rw[<-ua (xs:=parts)];exact dz _ hp
                refine LT.look λν H e w hv ht hO hS=>?_;obtain⟨vs,css,g1,g2,g3,g4⟩:=M6 hS 0 hl hn.1;refine aG.Qo (zc:=T.z.cells.toList) hu (gu hT) (by simp) (gu hE) ?_ g1 g2 ⟨rfl,_,rfl,g3⟩;rw[g4,cJ,hn2];simpa using hsz
              . cases h
            . cases h
        . cases h
      . cases h
    . cases h
  . cases h
 |_=>simp only[au]at h;cases h
end
open Go Go.RowKit Go.X
variable [fq]
section
variable {P:Program} {l:List Oper} {n:Nat}
theorem anyJ{J:(Nat->Bool)->Env->World->Prop}{Qp:Exit->Act->World->Prop}(hok:mu n l=true)(hb:tL l=true)
 (step:∀(D:Nat->Bool) (i:Nat) (o:Oper) (e:Env) (w:World),l[i]?=some o->D i=false->(∀d∈fy o,D d=true)->(∀j oj,l[j]?=some oj->D j=true->∀d∈fy oj,D d=true)->J D e w->k9 P l o e w λv w'=>J (λj=>D j||Nat.beq j i) (j1 e o.dst v) w')
 (hQ:∀(D:Nat->Bool) (a:Act) (w:World),(∀i,i<l.length->D i=true)->a.tmps.size=n->a.defers=[]->J D (db a) w->Qp .normal a w):
 ∀(fuel:Nat) (listed:Array Bool) (a:Act) (w:World),listed.size=l.length->a.tmps.size=n->a.defers=[]->(∀j oj,l[j]?=some oj->fl listed j->∀d∈fy oj,fl listed d)->J (λj=>listed.getD j false) (db a) w->iI l listed<=fuel->wpAny P .any l.toArray Qp fuel listed a w:=by
 have fin:∀(listed:Array Bool) (a:Act) (w:World),listed.size=l.length->a.tmps.size=n->a.defers=[]->J (λj=>listed.getD j false) (db a) w->Region.ready .any l.toArray listed=[]->Qp .normal a w:=by
  intro listed a w hs h1 h2 hJ hr;have hal:=OJ hs hb hr;exact hQ _ a w (λi hi=>hal i hi) h1 h2 hJ
 intro fuel
 induction fuel with
 |zero=>
  intro listed a w hs h1 h2 hcl hJ hc;have hr:Region.ready .any l.toArray listed=[]:=by
   apply List.eq_nil_iff_forall_not_mem.2;intro i hi;obtain⟨g1,o,g2,_⟩:=mem_ready.1 hi;have hil:i<l.length:=by
    rw[wG]at g2;exact(ep.1 g2).1
   have:=Vh (by omega:iI l listed=0) hil;rw[g1]at this;cases this
  exact⟨hr,fin listed a w hs h1 h2 hJ hr⟩
 |succ fuel ih=>
  intro listed a w hs h1 h2 hcl hJ hc;refine⟨λhr=>fin listed a w hs h1 h2 hJ hr,λi hi=>?_⟩;have hil:i<l.length:=by
   obtain⟨_,o,g2,_⟩:=mem_ready.1 hi;rw[wG]at g2;exact(ep.1 g2).1
  have ho:l[i]?=some l[i]:=cy hil;obtain⟨hun,hdeps⟩:=PM hi ho;have hnl:¬fl listed i:=(unl hs hil).2 hun;have hcn:=Pu hs hil hun;have hdd:∀o,o∈l->∀d,o.dst=some d->d<a.tmps.size:=by rw[h1];exact CO hok
  have hst:=step (λj=>listed.getD j false) i l[i] (db a) w ho (by cases hb2:listed.getD i false with
   |false=>rfl
   |true=>exact bV hb2 hnl) hdeps hcl hJ
  refine Qu hdd ho hst λv w' hv=>?_;refine ih _ _ w' (by simp[hs]) (by rw[pz];exact h1) (by rw[qS];exact h2) (Uf hs hil hcl hdeps) ?_ (by omega);have e1:(λj=>(listed.setIfInBounds i true).getD j false)=λj=>listed.getD j false||Nat.beq j i:=by
   funext j;have hh:=Ly (l:=l) hs (i:=i) (j:=j) hil;unfold fl at hh;cases hb3:listed.getD j false with
   |true=>rw[hh.2 (.inl hb3)];rfl
   |false=>
    cases hb4:Nat.beq j i with
    |true=>rw[hh.2 (.inr (dV hb4))];rfl
    |false=>
     cases hb5:(listed.setIfInBounds i true).getD j false with
     |false=>rfl
     |true=>
      rcases hh.1 hb5 with h|h
      . rw[hb3]at h;cases h
      . subst h;rw[rL]at hb4;cases hb4
  rw[e1,vL a h1 (λk hk=>by rw[<-h1];exact hdd _ (nR ho) k hk)];exact hv
theorem cI.drawJ{id:Nat}{k:List It}{Qr:Env->World->Prop}{e:Env}{w:World}{J:(Nat->Bool)->Env->World->Prop}(hm:P.follows .mixedOrders=true)(hok:mu n l=true)(hb:tL l=true)
 (h0:∀w1,w1.os=w.os->w1.tape=w.tape->w1.output=w.output->w1.heap=w.heap->J (λ_=>false) e w1)
 (step:∀(D:Nat->Bool) (i:Nat) (o:Oper) (e:Env) (w:World),l[i]?=some o->D i=false->(∀d∈fy o,D d=true)->(∀j oj,l[j]?=some oj->D j=true->∀d∈fy oj,D d=true)->J D e w->k9 P l o e w λv w'=>J (λj=>D j||Nat.beq j i) (j1 e o.dst v) w')
 (hQ:∀(D:Nat->Bool) (e:Env) (w:World),(∀i,i<l.length->D i=true)->J D e w->cI P n k Qr e w):cI P n (.code (.region id l.toArray true)::k) Qr e w:=by
 intro a h1 h2 h3;subst h3;refine wp_region_any hm ?_;have hno:∀j,¬fl (Array.replicate l.toArray.size false) j:=λj hj=>by unfold fl at hj;rw[getD_replicate_false]at hj;cases hj
 refine anyJ (J:=J) hok hb step (λD a' w' hD g1 g2 g3=>⟨g1,g2,hQ D _ _ hD g3⟩) l.toArray.size (Array.replicate l.toArray.size false) a _ (by simp) h1 h2 (λj oj _ hj=>bV hj (hno j)) ?_ ?_
 . have e1:(λj=>(Array.replicate l.toArray.size false).getD j false)=λ_=>false:=by
    funext j;rw[getD_replicate_false]
   rw[e1];exact h0 _ rfl rfl rfl rfl
 . unfold iI;refine bU (ue _ _) (by simp)
end
open Go Go.RowKit Go.X
variable [fq]
structure Ev:Type 1 where
 rd:List Nat
 ro:List Nat
 nx:Nat
 dst:Option Nat
 sv:Option Sv
 ef:Ef
def np(d:Option Nat)(sv:Option Sv)(sl:List (Nat×Option Sv)):List (Nat×Option Sv):=match d with
 |some d=>(d,sv)::sl
 |none=>sl
abbrev Ev.su(ev:Ev):List (Nat×Option Sv):=np ev.dst ev.sv ev.ef.sl
abbrev Ev.ks(ev:Ev):List Nat:=ev.ef.up.map (·.1)
def fO(D:Nat->Bool):Nat->List Ev->OF->OF
 |_,[],f=>f
 |j,ev::r,f=>fO D (j+1) r (bif D j then bQ ev.ef.up f else f)
def fS(D:Nat->Bool):Nat->List Ev->SF->SF
 |_,[],f=>f
 |j,ev::r,f=>fS D (j+1) r (bif D j then bQ ev.su f else f)
abbrev Tr:Nat->Bool:=λ_=>true
section
variable {D D':Nat->Bool}
theorem FA:∀{l:List Ev} {j:Nat} {f g:OF} {x:Nat},f x=g x->fO D j l f x=fO D j l g x
 |[],_,_,_,_,h=>h
 |ev::r,j,f,g,x,h=>by
  show fO D (j+1) r _ x=fO D (j+1) r _ x;apply FA;cases D j with
  |false=>exact h
  |true=>
   show bQ ev.ef.up f x=bQ ev.ef.up g x;cases hm:cC x ev.ks with
   |true=>exact rq hm
   |false=>rw[ku hm,ku hm];exact h
theorem DO:∀{l1 l2:List Ev} {j:Nat} {f:OF},fO D j (l1++l2) f=fO D (j+l1.length) l2 (fO D j l1 f)
 |[],_,_,_=>rfl
 |ev::r,l2,j,f=>by
  show fO D (j+1) (r++l2) _=fO D (j+(r.length+1)) l2 (fO D (j+1) r _);rw[DO,show j+1+r.length=j+(r.length+1) by omega]
theorem tu:∀{l:List Ev} {j:Nat} {f:OF} {x:Nat},(∀i ev,l[i]?=some ev->D (j+i)=D' (j+i)\/cC x ev.ks=false)->fO D j l f x=fO D' j l f x
 |[],_,_,_,_=>rfl
 |ev::r,j,f,x,h=>by
  show fO D (j+1) r _ x=fO D' (j+1) r _ x;rw[tu (l:=r) (j:=j+1) (λi ev' hi=>by
   have:=h (i+1) ev' (by simpa using hi);rwa[show j+(i+1)=j+1+i by omega]at this)]
  apply FA;rcases h 0 ev rfl with h|h
  . rw[show j+0=j from rfl]at h;rw[h]
  . have h1:∀b:Bool,(bif b then bQ ev.ef.up f else f) x=f x:=λb=>by cases b with
     |true=>exact ku h
     |false=>rfl
    rw[h1,h1]
theorem Em:∀{l:List Ev} {j:Nat} {f g:SF} {x:Nat},f x=g x->fS D j l f x=fS D j l g x
 |[],_,_,_,_,h=>h
 |ev::r,j,f,g,x,h=>by
  show fS D (j+1) r _ x=fS D (j+1) r _ x;apply Em;cases D j with
  |false=>exact h
  |true=>
   show bQ ev.su f x=bQ ev.su g x;cases hm:cC x (ev.su.map (·.1))with
   |true=>exact rq hm
   |false=>rw[ku hm,ku hm];exact h
theorem Gw:∀{l1 l2:List Ev} {j:Nat} {f:SF},fS D j (l1++l2) f=fS D (j+l1.length) l2 (fS D j l1 f)
 |[],_,_,_=>rfl
 |ev::r,l2,j,f=>by
  show fS D (j+1) (r++l2) _=fS D (j+(r.length+1)) l2 (fS D (j+1) r _);rw[Gw,show j+1+r.length=j+(r.length+1) by omega]
theorem tj:∀{l:List Ev} {j:Nat} {f:SF} {x:Nat},(∀i ev,l[i]?=some ev->D (j+i)=D' (j+i)\/cC x (ev.su.map (·.1))=false)->fS D j l f x=fS D' j l f x
 |[],_,_,_,_=>rfl
 |ev::r,j,f,x,h=>by
  show fS D (j+1) r _ x=fS D' (j+1) r _ x;rw[tj (l:=r) (j:=j+1) (λi ev' hi=>by
   have:=h (i+1) ev' (by simpa using hi);rwa[show j+(i+1)=j+1+i by omega]at this)]
  apply Em;rcases h 0 ev rfl with h|h
  . rw[show j+0=j from rfl]at h;rw[h]
  . have h1:∀b:Bool,(bif b then bQ ev.su f else f) x=f x:=λb=>by cases b with
     |true=>exact ku h
     |false=>rfl
    rw[h1,h1]
end
structure En where
 rd:Nat
 ro:Nat
 nx:Nat
 ne:Nat
 dst:Nat
 ks:Nat
def iZ:List Nat->Nat
 |[]=>0
 |x::r=>(1<<<x)|||iZ r
theorem CD:∀{l:List Nat} {x:Nat},Nat.testBit (iZ l) x=cC x l
 |[],x=>by simp[iZ,cC]
 |y::r,x=>by
  show Nat.testBit ((1<<<y)|||iZ r) x=(Nat.beq x y||cC x r);rw[Hr,CD,Nat.testBit_shiftLeft];congr 1;cases hb:Nat.beq x y with
  |true=>
   have:=dV hb;subst this;simp
  |false=>
   have hne:x≠y:=by rintro rfl;rw[rL]at hb;cases hb
   cases h1:decide (x≥y)with
   |false=>rfl
   |true=>
    have:=iL h1;rw[Bool.true_and];cases h2:Nat.testBit 1 (x-y)with
    |false=>rfl
    |true=>rw[VZ]at h2;omega
def mF:List Nat->Nat->Nat
 |[],a=>a
 |x::r,a=>mF r (a|||(1<<<(0+x)))
theorem zI:∀{l:List Nat} {a x:Nat},Nat.testBit (mF l a) x=(Nat.testBit a x||cC x l)
 |[],a,x=>by simp[mF,cC]
 |y::r,a,x=>by
  show Nat.testBit (mF r (a|||(1<<<(0+y)))) x=(Nat.testBit a x||(Nat.beq x y||cC x r));have h1:Nat.testBit (1<<<(0+y)) x=Nat.beq x y:=by
   have:=CD (l:=[y]) (x:=x);simp only[iZ,Nat.or_zero,cC,Bool.or_false]at this;rw[fb];exact this
  rw[zI,Hr,h1,Bool.or_assoc]
structure Er where
 rd:Nat
 ro:List Nat
 nx:Nat
 ne:Nat
 dst:Nat
 dl:List Nat
 ks:List Nat
def Er.en(e:Er):En:=⟨e.rd,mF e.ro 0,0+e.nx,0+e.ne,mF e.dl e.dst,mF e.ks 0⟩
def Ev.er(ev:Ev):Er:=⟨iZ ev.rd,ev.ro,ev.nx,ev.nx+ev.ef.n,iZ ev.dst.toList,ev.ef.sl.map (·.1),ev.ks⟩
abbrev Ev.en(ev:Ev):En:=ev.er.en
theorem Kl{ev:Ev}{x:Nat}:Nat.testBit ev.en.rd x=cC x ev.rd:=CD
theorem MU{ev:Ev}{x:Nat}:Nat.testBit ev.en.ro x=cC x ev.ro:=by show Nat.testBit (mF ev.ro 0) x=_;rw[zI];simp
theorem zD{ev:Ev}{x:Nat}:Nat.testBit ev.en.ks x=cC x ev.ks:=by show Nat.testBit (mF ev.ks 0) x=_;rw[zI];simp
theorem BB{ev:Ev}{x:Nat}:Nat.testBit ev.en.dst x=cC x (ev.su.map (·.1)):=by
 show Nat.testBit (mF (ev.ef.sl.map (·.1)) (iZ ev.dst.toList)) x=_;rw[zI,CD];unfold Ev.su np;cases ev.dst<;>simp[cC]
theorem wj{a b x:Nat}(h:Nat.beq (a&&&b) 0=true)(hx:Nat.testBit a x=true):Nat.testBit b x=false:=by
 have h:=dV h;have h1:Nat.testBit (a&&&b) x=false:=by rw[h];simp
 rw[Nat.testBit_and,hx,Bool.true_and]at h1;exact h1
def n5(a b:En):Bool:=Nat.beq (b.ro&&&a.ks) 0&&Nat.beq (b.ks&&&a.ks) 0&&Nat.beq (a.ro&&&b.ks) 0&&Nat.beq (b.rd&&&a.dst) 0&&Nat.beq (a.rd&&&b.dst) 0&&Nat.beq (a.dst&&&b.dst) 0
theorem vF{a b:Ev}(h:n5 a.en b.en=true):(∀x∈b.ro,cC x a.ks=false)/\(∀x∈b.ks,cC x a.ks=false)/\(∀x∈a.ro,cC x b.ks=false)/\(∀x∈b.rd,cC x (a.su.map (·.1))=false)/\(∀x∈a.rd,cC x (b.su.map (·.1))=false)/\∀x∈a.su.map (·.1),cC x (b.su.map (·.1))=false:=by
 simp only[n5,fZ]at h;obtain⟨⟨⟨⟨⟨h1,h2⟩,h3⟩,h4⟩,h5⟩,h6⟩:=h;refine⟨λx hx=>?_,λx hx=>?_,λx hx=>?_,λx hx=>?_,λx hx=>?_,λx hx=>?_⟩
 . rw[<-zD];exact wj h1 (by rw[MU];exact ju.2 hx)
 . rw[<-zD];exact wj h2 (by rw[zD];exact ju.2 hx)
 . rw[<-zD];exact wj h3 (by rw[MU];exact ju.2 hx)
 . rw[<-BB];exact wj h4 (by rw[Kl];exact ju.2 hx)
 . rw[<-BB];exact wj h5 (by rw[Kl];exact ju.2 hx)
 . rw[<-BB];exact wj h6 (by rw[BB];exact ju.2 hx)
def vZ(acc:List Nat)(ds:List Nat):Nat:=ds.foldl (λm d=>m|||(1<<<d)|||acc.getD d 0) 0
def vg:List Nat->List (List Nat)->List Nat
 |acc,[]=>acc
 |acc,ds::r=>vg (acc++[vZ acc ds]) r
def GW(m i:Nat):Bool:=Nat.beq (Nat.land (Nat.shiftRight m i) 1) 1
theorem Vf{m i:Nat}:GW m i=Nat.testBit m i:=by
 unfold GW Nat.testBit;show Nat.beq ((m>>>i)&&&1) 1=(1&&&(m>>>i)!=0);rw[Nat.and_comm 1,Nat.and_one_is_mod];rcases Nat.mod_two_eq_zero_or_one (m>>>i)with h|h<;>rw[h]<;>rfl
def qe:Nat->List En->List Nat->Bool
 |_,[],_=>true
 |i,a::r,ms=>match ms with
  |[]=>false
  |_::ms=>chkR i a r ms&&qe (i+1) r ms
where chkR (i:Nat) (a:En):List En->List Nat->Bool
 |[],_=>true
 |b::r,ms=>match ms with
  |[]=>false
  |m::ms=>Nat.ble a.ne b.nx&&(GW m i||n5 a b)&&chkR i a r ms
def ry(m nE:Nat)(all:List Oper)(es:List En):Bool:=(Nat.beq es.length all.length&&Nat.ble m nE)&&tL all&&(all.all λo=>!LN o.op)&&(es.all λe=>Nat.ble m e.nx&&Nat.ble e.ne nE)&&qe 0 es (vg [] (all.map fy))
def fB:Nat->(Nat->Bool)->Bool
 |0,K=>K 0
 |n+1,K=>K (n+1)
theorem yo{n:Nat}{K:Nat->Bool}:fB n K=K n:=by cases n<;>rfl
def DQ:List Nat->Nat->(List Nat->Bool)->Bool
 |[],m,K=>K [m]
 |x::r,m,K=>DQ r m λr'=>K (x::r')
theorem I9:∀{l:List Nat} {m:Nat} {K:List Nat->Bool},DQ l m K=K (l++[m])
 |[],_,_=>rfl
 |_::r,_,_=>I9 (l:=r)
def Fh:List Nat->List (List Nat)->(List Nat->Bool)->Bool
 |acc,[],K=>K acc
 |acc,ds::r,K=>fB (vZ acc ds) λm=>DQ acc m λacc'=>Fh acc' r K
theorem Jt:∀{r:List (List Nat)} {acc:List Nat} {K:List Nat->Bool},Fh acc r K=K (vg acc r)
 |[],_,_=>rfl
 |ds::r,acc,K=>by show fB _ _=_;rw[yo,I9,Jt (r:=r)];rfl
def DZ:Nat->List En->List Nat->Bool
 |_,[],_=>true
 |i,a::r,ms=>match ms with
  |[]=>false
  |_::ms=>qe.chkR i a r ms&&fB (i+1) λi=>DZ i r ms
theorem MH:∀{es:List En} {i:Nat} {ms:List Nat},DZ i es ms=qe i es ms
 |[],_,_=>rfl
 |a::r,i,[]=>rfl
 |a::r,i,m::ms=>by show(_&&fB _ _)=_;rw[yo,MH (es:=r)];rfl
def cB:Nat->Nat->(Nat->Bool)->Bool
 |0,a,K=>K a
 |n+1,a,K=>cB n (a+1) K
theorem Ab:∀{n a:Nat} {K:Nat->Bool},cB n a K=K (a+n)
 |0,_,_=>rfl
 |n+1,a,K=>by show cB n (a+1) K=_;rw[Ab,show a+1+n=a+(n+1) by omega]
def cLB:List Nat->Nat->(Nat->Bool)->Bool
 |[],a,K=>K a
 |x::r,a,K=>cB x 0 λx=>fB (a|||(1<<<x)) λa=>cLB r a K
theorem KX:∀{l:List Nat} {a:Nat} {K:Nat->Bool},cLB l a K=K (mF l a)
 |[],_,_=>rfl
 |x::r,a,K=>by show cB x 0 _=_;rw[Ab,yo,KX];rfl
def Gf:List Er->(List En->Bool)->Bool
 |[],K=>K []
 |e::r,K=>fB e.rd λrd=>cLB e.ro 0 λro=>cB e.nx 0 λnx=>fB nx λnx=>cB e.ne 0 λne=>fB ne λne=>fB e.dst λd=>cLB e.dl d λdst=>cLB e.ks 0 λks=>Gf r λes=>K (⟨rd,ro,nx,ne,dst,ks⟩::es)
theorem MX:∀{l:List Er} {K:List En->Bool},Gf l K=K (l.map Er.en)
 |[],_=>rfl
 |e::r,K=>by
  show fB e.rd _=_;simp only[yo,Ab,KX];rw[MX (l:=r)];rfl
def Dm(m nE:Nat)(all:List Oper)(es:List Er):Bool:=cB m 0 λm=>fB m λm=>cB nE 0 λnE=>fB nE λnE=>Gf es λes=>(Nat.beq es.length all.length&&Nat.ble m nE)&&tL all&&(all.all λo=>!LN o.op)&&(es.all λe=>Nat.ble m e.nx&&Nat.ble e.ne nE)&&Fh [] (all.map fy) λms=>DZ 0 es ms
theorem O1{m nE:Nat}{all:List Oper}{es:List Er}:Dm m nE all es=ry m nE all (es.map Er.en):=by
 unfold Dm ry;simp only[Ab,yo,MX,Jt,MH,fb]
theorem LV{acc:List Nat}{i:Nat}:∀{ds:List Nat} {m:Nat},Nat.testBit (ds.foldl (λm d=>m|||(1<<<d)|||acc.getD d 0) m) i=true->Nat.testBit m i=true\/∃d∈ds,d=i\/Nat.testBit (acc.getD d 0) i=true
 |[],m,h=>.inl h
 |d::r,m,h=>by
  rcases LV (ds:=r) h with h|⟨d',h1,h2⟩
  . rw[Hr,Hr,wK,wK]at h;rcases h with(h|h)|h
    . exact .inl h
    . refine .inr ⟨d,cX,.inl ?_⟩;rw[Nat.testBit_shiftLeft,fZ,VZ]at h;have h1:=iL h.1;omega
    . exact .inr ⟨d,cX,.inr h⟩
  . exact .inr ⟨d',cO _ h1,h2⟩
theorem MI{dl:List (List Nat)}{cl:Nat->Prop}:∀{r:List (List Nat)} {acc done:List (List Nat)} {am:List Nat},dl=done++r->am.length=done.length->
 (∀(j:Nat),j<done.length->∀(i:Nat),Nat.testBit (am.getD j 0) i=true->i∈dl.getD j []\/∃d∈dl.getD j [],Nat.testBit (am.getD d 0) i=true/\d<done.length)->
 (∀(j:Nat) (ds:List Nat),dl[j]?=some ds->∀d∈ds,d<j)->
 ∀(j:Nat),j<dl.length->∀(i:Nat),Nat.testBit ((vg am r).getD j 0) i=true->i∈dl.getD j []\/∃d∈dl.getD j [],Nat.testBit ((vg am r).getD d 0) i=true
 |[],acc,done,am,hd,hl,h,hb=>λj hj i hi=>by
  rw[mT]at hd;subst hd;rcases h j hj i hi with h|⟨d,h1,h2,_⟩
  . exact .inl h
  . exact .inr ⟨d,h1,h2⟩
 |ds::r,acc,done,am,hd,hl,h,hb=>by
  intro j hj i hi;have key:=MI (dl:=dl) (cl:=cl) (r:=r) (acc:=acc) (done:=done++[ds]) (am:=am++[vZ am ds]) (by rw[hd];simp) (by simp[hl]) ?_ hb j hj i hi
  . exact key
  . intro j hj i hi;have hds:dl[done.length]?=some ds:=by rw[hd];simp
    rcases cH j done.length with h1|h1
    . have e1:(am++[vZ am ds]).getD j 0=am.getD j 0:=by simp[cN,kv (show j<am.length by omega)]
      rw[e1]at hi;rcases h j h1 i hi with h2|⟨d,h2,h3,h4⟩
      . exact .inl h2
      . exact .inr ⟨d,h2,by simpa[cN,kv (show d<am.length by omega)]using h3,by simp;omega⟩
    . have e0:j=done.length:=by simp at hj;omega
      subst e0;have e1:(am++[vZ am ds]).getD done.length 0=vZ am ds:=by rw[<-hl];simp[cN]
      rw[e1]at hi;have e2:dl.getD done.length []=ds:=by rw[cN,hds];rfl
      rw[e2];rcases LV hi with h2|⟨d,h2,h3⟩
      . simp at h2
      . rcases h3 with h3|h3
        . subst h3;exact .inl h2
        . have hlt:=hb _ _ hds d h2;exact .inr ⟨d,h2,by simpa[cN,kv (show d<am.length by omega)]using h3,by simp;omega⟩
theorem Lr{all:List Oper}{D:Nat->Bool}(hb:tL all=true)(hcl:∀j oj,all[j]?=some oj->D j=true->∀d∈fy oj,D d=true):
 ∀(j:Nat) (oj:Oper) (i:Nat),all[j]?=some oj->(∀d∈fy oj,D d=true)->Nat.testBit ((vg [] (all.map fy)).getD j 0) i=true->D i=true:=by
 have hb':∀(j:Nat) (ds:List Nat),(all.map fy)[j]?=some ds->∀d∈ds,d<j:=by
  intro j ds h d hd;rw[ij]at h;cases ho:all[j]?with
  |none=>rw[ho]at h;cases h
  |some o=>rw[ho]at h;cases h;exact AP hb ho hd
 have key:=MI (dl:=all.map fy) (cl:=λ_=>True) (r:=all.map fy) (acc:=[]) (done:=[]) (am:=[]) rfl rfl (λ(j:Nat) (hj:j<0)=>bV hj (by simp)) hb';intro j
 induction j using Nat.strongRecOn with
 |_ j ih=>
  intro oj i ho hd hi;have hj:j<(all.map fy).length:=by rw[cT];exact(ep.1 ho).1
  have e1:(all.map fy).getD j []=fy oj:=by rw[cN,ij,ho];rfl
  rcases key j hj i hi with h|⟨d,h1,h2⟩
  . rw[e1]at h;exact hd i h
  . rw[e1]at h1;have hlt:=AP hb ho h1;have hdl:d<all.length:=by rw[cT]at hj;omega
    have hdo:all[d]?=some all[d]:=cy hdl;exact ih d hlt all[d] i hdo (hcl d _ hdo (hd d h1)) h2
theorem JM{i:Nat}{a:En}:∀{r:List En} {ms:List Nat},qe.chkR i a r ms=true->∀(k:Nat) (b:En),r[k]?=some b->∃m,ms[k]?=some m/\a.ne<=b.nx/\(Nat.testBit m i=true\/n5 a b=true)
 |[],_,_,k,b,h=>by simp at h
 |x::r,[],h,_,_,_=>by cases h
 |x::r,m::ms,h,k,b,hb=>by
  simp only[qe.chkR,fZ,wK]at h;cases k with
  |zero=>simp at hb;subst hb;exact⟨m,rfl,kR h.1.1,by rw[<-Vf];exact h.1.2⟩
  |succ k=>
   obtain⟨m',h1,h2⟩:=JM h.2 k b (by simpa using hb);exact⟨m',by simpa using h1,h2⟩
theorem Ja:∀{es:List En} {i:Nat} {ms:List Nat},qe i es ms=true->∀(p q:Nat) (a b:En),es[p]?=some a->es[q]?=some b->p<q->∃m,ms[q]?=some m/\a.ne<=b.nx/\(Nat.testBit m (i+p)=true\/n5 a b=true)
 |[],_,_,_,p,q,a,b,h,_,_=>by simp at h
 |x::r,_,[],h,_,_,_,_,_,_,_=>by cases h
 |x::r,i,_::ms,h,p,q,a,b,hp,hq,hlt=>by
  simp only[qe,fZ]at h;cases q with
  |zero=>omega
  |succ q=>
   have hq':r[q]?=some b:=by simpa using hq
   cases p with
   |zero=>
    simp at hp;subst hp;obtain⟨m,h1,h2⟩:=JM h.1 q b hq';exact⟨m,by simpa using h1,h2⟩
   |succ p=>
    obtain⟨m,h1,h2⟩:=Ja h.2 p q a b (by simpa using hp) hq' (by omega);rw[show i+1+p=i+(p+1) by omega]at h2;exact⟨m,by simpa using h1,h2⟩
theorem BQ{ms:List Nat}{es:List En}(h:qe 0 es ms=true)(p q:Nat)(a b:En)(hp:es[p]?=some a)(hq:es[q]?=some b)(hlt:p<q):a.ne<=b.nx/\(Nat.testBit (ms.getD (0+q) 0) (0+p)=true\/n5 a b=true):=by
 obtain⟨m,h1,h2⟩:=Ja h p q a b hp hq hlt;rw[fb q,cN,h1];exact h2
open Go Go.RowKit Go.X
variable [fq]
structure Fx where
 n:Nat
 Q:Env->World->Prop
 X:Nat->Prop
 w0:World
 H0:Bool->Hp
 m:Nat
 ν0:Nu
def St(F:Fx)(L:SS)(e:Env)(w:World):Prop:= ∃ν,(∀k,L.nx<=k->ν k=none)/\F.m<=L.nx/\(∀k,k<F.m->ν k=F.ν0 k)/\cY F.X F.w0 F.H0 ν (aT L.bI) w/\dI ν (HF F.X F.w0 F.H0 ν (aT L.bI) w) (aT L.bX) e
def SS.l5(L:SS)(ef:Ef):SS:=⟨L.nx+ef.n,ef.up++L.bI,ef.sl++L.bX⟩
def SS.set(L:SS)(d:Nat)(s:Option Sv):SS:=⟨L.nx,L.bI,(d,s)::L.bX⟩
def SS.mi(L:SS):Option Nat->Option Sv->SS
 |some d,s=>L.set d s
 |none,_=>L
theorem KY{L:SS}{d:Nat}{s:Option Sv}:aT (L.set d s).bX=yi (aT L.bX) d s:=rfl
theorem rv{L:SS}{d:Option Nat}{s:Option Sv}:aT (L.mi d s).bX=Ft (aT L.bX) d s:=by cases d<;>rfl
theorem lg{L:SS}{d:Option Nat}{s:Option Sv}:(L.mi d s).bI=L.bI/\(L.mi d s).nx=L.nx:=by cases d<;>exact⟨rfl,rfl⟩
theorem pF{L:SS}{ef:Ef}:aT (L.l5 ef).bI=bQ ef.up (aT L.bI):=by funext t;exact qK _ _ _
theorem sQ{L:SS}{ef:Ef}:aT (L.l5 ef).bX=bQ ef.sl (aT L.bX):=by funext t;exact qK _ _ _
theorem dI.ap{ν:Nu}{H:Bool->Hp}{f:SF}{e:Env}{l:List (Nat×Option Sv)}(h:dI ν H f e)(hl:dI ν H (aT l) e):dI ν H (bQ l f) e:=by
 intro t sv ht;cases hm:cC t (l.map (·.1))with
 |false=>rw[ku hm]at ht;exact h t sv ht
 |true=>
  refine hl t sv ?_;have:bQ l f t=bQ l (aT []) t:=rq hm;rw[<-qK,mT]at this;rw[<-this];exact ht
inductive Md where
 |rg (all r:List Oper) (kn:List (Nat×Bool))
 |sw
def apn{α:Type 1}:List α->List α->List α
 |[],r=>r
 |x::l,r=>x::(l++r)
theorem Ui{α:Type 1}{l r:List α}:apn l r=l++r:=by cases l<;>rfl
def addN(n:Nat):Nat->Nat
 |0=>n
 |m+1=>n+(m+1)
theorem Vb{n m:Nat}:addN n m=n+m:=by cases m<;>rfl
def kJ(L:SS)(ef:Ef)(d:Option Nat)(sv:Option Sv)(K:SS->Prop):Prop:=match L with
 |⟨n,os,ss⟩=>match ef with
  |⟨m,up,sl⟩=>match d with
   |some d=>K ⟨addN n m,apn up os,(d,sv)::apn sl ss⟩
   |none=>K ⟨addN n m,apn up os,apn sl ss⟩
theorem oL{L:SS}{ef:Ef}{d:Option Nat}{sv:Option Sv}{K:SS->Prop}(h:kJ L ef d sv K):K ((L.l5 ef).mi d sv):=by
 obtain⟨n,os,ss⟩:=L;obtain⟨m,up,sl⟩:=ef;cases d<;>simp only[kJ,Ui,Vb]at h<;>exact h
def yN(L:SS)(d:Nat)(s:Option Sv)(K:SS->Prop):Prop:=match L with
 |⟨n,os,ss⟩=>K ⟨n,os,(d,s)::ss⟩
theorem BW{L:SS}{d:Nat}{s:Option Sv}{K:SS->Prop}(h:yN L d s K):K (L.set d s):=h
def BC:Bool->(Bool->Prop)->Prop
 |true,K=>K true
 |false,K=>K false
theorem Jg:∀{x:Bool} {K:Bool->Prop},BC x K->K x
 |true,_,h=>h
 |false,_,h=>h
structure jM {P:Program}(tb:List (dU P))(F:Fx)(k:List It)(L:SS):Prop where
 ok:∀e w,St F L e w->cI P F.n k F.Q e w
structure RlN {P:Program}(tb:List (dU P))(F:Fx)(all r:List Oper)(k:List It)(L:SS):Prop where
 ok:∀e w,St F L e w->Rl P all r (cI P F.n k F.Q) e w
structure cA {P:Program}(tb:List (dU P))(o:Oper)(L:SS)(K:Ef->Option Sv->Prop):Prop where
 ok:∃ef sv,LT P L o.op o.type ef sv/\K ef sv
structure uD {P:Program}(tb:List (dU P))(F:Fx)(L:SS):Prop where
 ok:∀e w,St F L e w->F.Q e w
structure vn {P:Program}(tb:List (dU P))(F:Fx)(J:Env->World->Prop)(L:SS):Prop where
 ok:∀e w,St F L e w->J e w
def pg{P:Program}(tb:List (dU P))(o:Oper)(L:SS)(K:Ef->Option Sv->Prop):Prop:=match au tb L o.op with
 |some (ef,sv)=>K ef sv
 |none=>cA tb o L K
theorem zP{P:Program}{tb:List (dU P)}{o:Oper}{L:SS}{K:Ef->Option Sv->Prop}(h:pg tb o L K):∃ef sv,LT P L o.op o.type ef sv/\K ef sv:=by
 unfold pg at h;split at h
 . rename_i ef sv hau;exact⟨ef,sv,au_ok hau,h⟩
 . exact h.ok
def L0:List Oper->Bool
 |[]=>true
 |o::r=>match o.guard with
  |none=>L0 r
  |some _=>false
def sZ:Bool->Bool->Bool
 |true,b=>b
 |false,true=>false
 |false,false=>true
theorem n9{x b:Bool}:sZ x b=(x==b):=by cases x<;>cases b<;>rfl
def GS:List (Nat×Bool)->Nat->Option Bool
 |[],_=>none
 |(d,s)::r,t=>bif Nat.beq t d then some s else GS r t
def Gst{P:Program}(tb:List (dU P))(F:Fx)(ih:Md->List It->SS->Prop):Md->List It->SS->Prop
 |.rg all [] _,k,L=>ih .sw k L
 |.rg all (o::r) kn,k,L=>match o.guard with
  |none=>pg tb o L λef sv=>kJ L ef o.dst sv λL=>ih (.rg all r kn) k L
  |some (j,b)=>match my all j with
   |some dj=>match aT L.bX dj with
    |some (.s (.lf (.v (.bool x))))=>match GS kn j with
     |some x'=>match sZ x x' with
      |true=>match sZ x' b with
       |true=>pg tb o L λef sv=>kJ L ef o.dst sv λL=>ih (.rg all r kn) k L
       |false=>kJ L .z o.dst (some (.fP [])) λL=>ih (.rg all r kn) k L
      |false=>RlN tb F all (o::r) k L
     |none=>BC x λx'=>match sZ x' b with
      |true=>yN L dj (eM (.bool x')) λL=>pg tb o L λef sv=>kJ L ef o.dst sv λL=>ih (.rg all r ((j,x')::kn)) k L
      |false=>yN L dj (eM (.bool x')) λL=>kJ L .z o.dst (some (.fP [])) λL=>ih (.rg all r ((j,x')::kn)) k L
    |some (.fP [])=>kJ L .z o.dst (some (.fP [])) λL=>ih (.rg all r kn) k L
    |_=>RlN tb F all (o::r) k L
   |none=>RlN tb F all (o::r) k L
 |.sw,[],L=>uD tb F L
 |.sw,.dK _::k,L=>ih .sw k L
 |.sw,.scp::k,L=>ih .sw k L
 |.sw,.back J::_,L=>vn tb F J L
 |.sw,.code c::k,L=>match c with
  |.skip=>ih .sw k L
  |.label _=>ih .sw k L
  |.seq a b=>ih .sw (.code a::.code b::k) L
  |.region i ops false=>match L0 ops.toList with
   |true=>match mu F.n ops.toList with
    |true=>ih (.rg ops.toList ops.toList []) k L
    |false=>jM tb F (.code (.region i ops false)::k) L
   |false=>jM tb F (.code (.region i ops false)::k) L
  |.exit i=>match tI i k with
   |some k'=>ih .sw k' L
   |none=>jM tb F (.code (.exit i)::k) L
  |.ret=>uD tb F L
  |c=>jM tb F (.code c::k) L
def mdN{P:Program}(tb:List (dU P))(F:Fx):Md->List It->SS->Prop
 |.sw,k,L=>jM tb F k L
 |.rg all r _,k,L=>RlN tb F all r k L
noncomputable def G{P:Program}(tb:List (dU P))(F:Fx)(f:Nat):Md->List It->SS->Prop:=Nat.rec (motive:=λ_=>Md->List It->SS->Prop) (mdN tb F) (λ_ ih=>Gst tb F ih) f
section
variable {F:Fx} {L:SS} {e:Env} {w:World}
theorem St.fact(h:St F L e w){t:Nat}{v:Value}(hs:aT L.bX t=some (.s (.lf (.v v)))):e t=v/\one v=true:=by
 obtain⟨ν,_,_,_,_,h4⟩:=h;exact h4 t _ hs
theorem J8{f:SF}{d:Nat}{s:Option Sv}(h:f d=s):yi f d s=f:=by
 funext t;show(bif Nat.beq t d then s else f t)=f t;cases hb:Nat.beq t d with
 |false=>rfl
 |true=>rw[dV hb,h];rfl
theorem St.aA(h:St F L e w){t:Nat}{v:Value}(hs:aT L.bX t=some (.s (.lf (.v v)))){v':Value}(hv:v=v'):St F (L.set t (eM v')) e w:=by
 obtain⟨ν,h1,h2,h3,h4,h5⟩:=h;subst hv;refine⟨ν,h1,h2,h3,h4,?_⟩;rw[KY,J8 (show aT L.bX t=eM v from hs)];exact h5
theorem St.skip0(h:St F L e w){o:Oper}{l:List Oper}(d:Option Nat):St F (L.mi d (some (.fP []))) (j1 e d undef) w:=by
 obtain⟨ν,h1,h2,h3,h4,h5⟩:=h;refine⟨ν,by rw[lg.2];exact h1,by rw[lg.2];exact h2,h3,by rw[lg.1];exact h4,?_⟩;rw[rv,lg.1];exact h5.mi (s:=some (.fP [])) ⟨[],rfl,rfl⟩
theorem tq:L.l5 .z=L:=by
 obtain⟨n,os,ss⟩:=L;rfl
theorem St.skip(h:St F L e w){o:Oper}{l:List Oper}(d:Option Nat):St F ((L.l5 .z).mi d (some (.fP []))) (j1 e d undef) w:=by
 rw[tq];exact h.skip0 (o:=o) (l:=l) d
theorem St.step{P:Program}{op:Op}{ty:TypeId}{ef:Ef}{sv:Option Sv}(h:St F L e w)(hl:LT P L op ty ef sv)(d:Option Nat):aG P op ty (ev e) w λv w'=>St F ((L.l5 ef).mi d sv) (j1 e d v) w':=by
 obtain⟨ν,h1,h2,h3,h4,h5⟩:=h;refine(hl.ok F.X F.w0 F.H0 ν (aT L.bI) e w (λ_ _ h=>h) (λk hk _=>h1 k hk) h4 h5).mono ?_;rintro v w' ⟨ν',g1,g2,g3,g3',g4⟩;refine⟨ν',λk hk=>?_,?_,λk hk=>?_,?_,?_⟩
 . rw[lg.2]at hk;have hk:L.nx+ef.n<=k:=hk;rw[g1 k (.inr hk)];exact h1 k (by omega)
 . rw[lg.2];show F.m<=L.nx+ef.n;omega
 . rw[g1 k (.inl (by omega))];exact h3 k hk
 . rw[lg.1,pF];exact g2
 . rw[lg.1,rv,pF,sQ];exact((h5.mono (g1.le λk hk _=>h1 k hk) g3).ap g3').mi g4
end
section
variable {P:Program} {tb:List (dU P)} {F:Fx}
theorem QO{all:List Oper}{o:Oper}{r:List Oper}{K:Env->World->Prop}{e:Env}{w:World}(hw:iN all o e=true)(h:aG P o.op o.type (ev e) w λv w'=>Rl P all r K (j1 e o.dst v) w'):Rl P all (o::r) K e w:=by
 simp only[Rl,hw];exact h
theorem Ey{all:List Oper}{o:Oper}{r:List Oper}{K:Env->World->Prop}{e:Env}{w:World}(hw:iN all o e=false)(h:Rl P all r K (j1 e o.dst undef) w):Rl P all (o::r) K e w:=by
 simp only[Rl,hw];exact h
theorem D3{all:List Oper}{o:Oper}{j dj:Nat}{b x:Bool}{e:Env}(hg:o.guard=some (j,b))(hj:my all j=some dj)(he:e dj=.bool x):iN all o e=(x==b):=by
 unfold iN;rw[hg];show gy all e j b=_;unfold gy;rw[hj];simp[he]
theorem Lp{all:List Oper}{o:Oper}{j dj:Nat}{b:Bool}{e:Env}(hg:o.guard=some (j,b))(hj:my all j=some dj)(he:e dj=undef):iN all o e=false:=by
 unfold iN;rw[hg];show gy all e j b=_;unfold gy;rw[hj];simp[he,undef]
theorem L6{ν:Nu}{H:Bool->Hp}{v:Value}(h:(Sv.fP []).R ν H v):v=undef:=by
 obtain⟨vs,g1,g2⟩:=h;rw[g1,show vs=[] from g2];rfl
theorem G_ok:∀(f:Nat) (m:Md) (k:List It) (L:SS),G tb F f m k L->mdN tb F m k L:=by
 intro f
 induction f with
 |zero=>intro m k L h;cases m<;>exact h
 |succ f ih=>
  intro m k L h;have h:Gst tb F (G tb F f) m k L:=h;cases m with
  |rg all r kn=>
   cases r with
   |nil=>exact⟨λe w hs=>Rl.nil ((ih .sw k L h).ok e w hs)⟩
   |cons o r=>
    refine⟨λe w hs=>?_⟩;have opK:∀{L:SS} {kn:List (Nat×Bool)},St F L e w->iN all o e=true->pg tb o L (λef sv=>kJ L ef o.dst sv λL=>G tb F f (.rg all r kn) k L)->Rl P all (o::r) (cI P F.n k F.Q) e w:=by
     intro L kn hs hw h;obtain⟨ef,sv,hl,hk⟩:=zP h;exact QO hw ((hs.step hl o.dst).mono λv w' hv=>(ih _ _ _ (oL hk)).ok _ _ hv)
    simp only[Gst]at h;split at h
    . rename_i hg;exact opK hs (by unfold iN;rw[hg]) h
    . rename_i j b hg;split at h
      . rename_i dj hj;split at h
        . rename_i x hx;have he:=(hs.fact hx).1;split at h
          . rename_i x' _;split at h
            . rename_i hk0;have e0:x=x':=by
               rw[n9]at hk0;simpa using hk0
              subst e0;have hw:=D3 hg hj he;split at h
              . rename_i hk;exact opK hs (by rw[hw,<-n9];exact hk) h
              . rename_i hk;exact Ey (by rw[hw,<-n9];exact hk) ((ih _ _ _ (oL h)).ok _ _ (hs.skip (o:=o) (l:=all) o.dst))
            . exact h.ok e w hs
          . have h:=Jg h;have hs':=hs.aA hx rfl;have hw:=D3 hg hj he;split at h
            . rename_i hk;exact opK hs' (by rw[hw,<-n9];exact hk) (BW h)
            . rename_i hk;exact Ey (by rw[hw,<-n9];exact hk) ((ih _ _ _ (oL (BW h))).ok _ _ (hs'.skip (o:=o) (l:=all) o.dst))
        . rename_i hx;have he:e dj=undef:=by
           obtain⟨ν,_,_,_,_,h4⟩:=hs;exact L6 (h4 dj _ hx)
          exact Ey (Lp hg hj he) ((ih _ _ _ (oL h)).ok _ _ (hs.skip (o:=o) (l:=all) o.dst))
        . exact h.ok e w hs
      . exact h.ok e w hs
  |sw=>
   refine⟨λe w hs=>?_⟩;cases k with
   |nil=>exact h.ok e w hs
   |cons x k=>
    cases x with
    |dK i=>exact(ih .sw k L h).ok e w hs
    |scp=>exact(ih .sw k L h).ok e w hs
    |back J=>exact h.ok e w hs
    |code c=>
     simp only[Gst]at h;split at h
     . exact cI.skip ((ih .sw k L h).ok e w hs)
     . exact cI.label ((ih .sw k L h).ok e w hs)
     . exact cI.seq ((ih .sw _ L h).ok e w hs)
     . split at h
       . split at h
         . rename_i i ops _ _ hf _ hd;have:=cI.region (id:=i) (k:=k) (Q:=F.Q) (e:=e) (w:=w) (P:=P) hd ((ih (.rg ops.toList ops.toList []) k L h).ok e w hs);simpa using this
         . exact h.ok e w hs
       . exact h.ok e w hs
     . split at h
       . rename_i k' hk;exact cI.exit hk ((ih .sw k' L h).ok e w hs)
       . exact h.ok e w hs
     . exact cI.ret (h.ok e w hs)
     . exact h.ok e w hs
end
abbrev wz:Nat:=1000000
section
variable {P:Program} (tb:List (dU P)) (F:Fx)
abbrev Gr(all r:List Oper)(k:List It)(L:SS):Prop:=G tb F wz (.rg all r []) k L
abbrev Gs(k:List It)(L:SS):Prop:=G tb F wz .sw k L
end
section
variable {P:Program} {tb:List (dU P)} {F:Fx} {all r:List Oper} {k:List It} {L:SS}
theorem Gr.ok(h:Gr tb F all r k L):RlN tb F all r k L:=G_ok wz _ k L h
theorem Gs.ok(h:Gs tb F k L):jM tb F k L:=G_ok wz _ k L h
end
open Go Go.RowKit Go.X
variable [fq]
def idsL:Lf->List Nat
 |.own i=>[i]
 |.ptr i _=>[i]
 |.mp i=>[i]
 |.sg i _ _ _=>[i]
 |.ap i _ _ _=>[i]
 |_=>[]
def uF:List Lf->List Nat
 |[]=>[]
 |l::r=>idsL l++uF r
def idsS:S1->List Nat
 |.lf l=>idsL l
 |.agg l=>uF l
def Kq:List S1->List Nat
 |[]=>[]
 |l::r=>idsS l++Kq r
def Gv:Option Sv->List Nat
 |some (.s x)=>idsS x
 |some (.fP l)=>Kq l
 |some (.pr _ c _)=>uF c
 |some (.pw i _ _ _ _ _)=>[i]
 |some (.fc _ ps)=>ps
 |some (.pa i _ _ _ _ _ _)=>[i]
 |none=>[]
def needO:Op->Bool
 |.move _=>false
 |.assign _=>false
 |.pick .. =>false
 |.unOp .. =>false
 |.binOp .. =>false
 |.extract .. =>false
 |.fieldAddr .. =>false
 |.build .. =>false
 |.nilCheck _=>false
 |.field .. =>false
 |.box .. =>false
 |_=>true
def EU(L:SS):List Nat->List Nat
 |[]=>[]
 |t::r=>Gv (aT L.bX t)++EU L r
def idsB(g:OF):List Nat->List Nat
 |[]=>[]
 |i::r=>i::((match g i with
  |some (.box l)=>uF l
  |_=>[])++idsB g r)
def needB:Op->Bool
 |.call .. =>true
 |_=>false
def nZ(L:SS)(op:Op)(ts:List Nat):List Nat:=bif needO op then(bif needB op then idsB (aT L.bI) (EU L ts)else EU L ts)else[]
def vv{α:Type 1}(g:Nat->Option α):List Nat->List (Nat×Option α)
 |[]=>[]
 |i::r=>(i,g i)::vv g r
def yc(L:SS)(op:Op)(ts:List Nat):SS:=⟨L.nx,vv (aT L.bI) (nZ L op ts),vv (aT L.bX) ts⟩
theorem Dk{α:Type 1}{g:Nat->Option α}:∀{l:List Nat} {i:Nat},aT (vv g l) i=bif cC i l then g i else none
 |[],_=>rfl
 |j::r,i=>by
  show(bif Nat.beq i j then g j else aT (vv g r) i)=bif (Nat.beq i j||cC i r)then g i else none;cases hb:Nat.beq i j with
  |true=>rw[dV hb];rfl
  |false=>rw[Dk (l:=r)];rfl
structure DkN {P:Program}(tb:List (dU P))(F:Fx)(n0:Nat)(all:List Oper)(k:List It)(acc:List Er)(L:SS):Prop where
 ok:ry n0 L.nx all (acc.reverse.map Er.en)=true/\Gs tb F k L
theorem rz{d:Option Nat}{sv:Option Sv}{sl:List (Nat×Option Sv)}{f:SF}:bQ (np d sv sl) f=Ft (bQ sl f) d sv:=by cases d<;>rfl
def GDs{P:Program}(tb:List (dU P))(F:Fx)(n0:Nat)(all:List Oper)(k:List It)(ih:List (Nat×Bool)->List Oper->List Er->SS->Prop):List (Nat×Bool)->List Oper->List Er->SS->Prop
 |_,[],acc,L=>DkN tb F n0 all k acc L
 |kn,o::r,acc,L=>match o.guard with
  |none=>pg tb o (yc L o.op (fh all o)) λef sv=>kJ L ef o.dst sv λL'=>ih kn r (⟨iZ (fh all o),nZ L o.op (fh all o),L.nx,L.nx+ef.n,iZ o.dst.toList,ef.sl.map (·.1),ef.up.map (·.1)⟩::acc) L'
  |some (j,b)=>match my all j with
   |some dj=>match aT L.bX dj with
    |some (.s (.lf (.v (.bool x))))=>match GS kn j with
     |some x'=>match sZ x x' with
      |true=>match sZ x' b with
       |true=>pg tb o (yc L o.op (fh all o)) λef sv=>kJ L ef o.dst sv λL'=>ih kn r (⟨iZ (fh all o),nZ L o.op (fh all o),L.nx,L.nx+ef.n,iZ o.dst.toList,ef.sl.map (·.1),ef.up.map (·.1)⟩::acc) L'
       |false=>kJ L .z o.dst (some (.fP [])) λL'=>ih kn r (⟨iZ (fh all o),[],L.nx,L.nx+0,iZ o.dst.toList,[],[]⟩::acc) L'
      |false=>False
     |none=>BC x λx'=>match sZ x' b with
      |true=>yN L dj (eM (.bool x')) λL=>pg tb o (yc L o.op (fh all o)) λef sv=>kJ L ef o.dst sv λL'=>ih ((j,x')::kn) r (⟨iZ (fh all o),nZ L o.op (fh all o),L.nx,L.nx+ef.n,iZ o.dst.toList,ef.sl.map (·.1),ef.up.map (·.1)⟩::acc) L'
      |false=>yN L dj (eM (.bool x')) λL=>kJ L .z o.dst (some (.fP [])) λL'=>ih ((j,x')::kn) r (⟨iZ (fh all o),[],L.nx,L.nx+0,iZ o.dst.toList,[],[]⟩::acc) L'
    |some (.fP [])=>kJ L .z o.dst (some (.fP [])) λL'=>ih kn r (⟨iZ (fh all o),[],L.nx,L.nx+0,iZ o.dst.toList,[],[]⟩::acc) L'
    |_=>False
   |none=>False
noncomputable def GD{P:Program}(tb:List (dU P))(F:Fx)(n0:Nat)(all:List Oper)(k:List It)(f:Nat):List (Nat×Bool)->List Oper->List Er->SS->Prop:=Nat.rec (motive:=λ_=>List (Nat×Bool)->List Oper->List Er->SS->Prop) (λ_ _ _ _=>False) (λ_ ih=>GDs tb F n0 all k ih) f
section
variable {P:Program} {tb:List (dU P)} {F:Fx} {all:List Oper} {k:List It}
structure yG (P:Program)(all:List Oper)(gS:SF)(gO:OF)(ev:Ev)(o:Oper):Prop where
 ok:∀(X:Nat->Prop) (w0:World) (H0:Bool->Hp) (ν:Nu) (oF:OF) (e:Env) (w:World),(∀j ob,cC j ev.ro=true->gO j=some ob->oF j=some ob)->(∀k,ev.nx<=k->k<ev.nx+ev.ef.n->ν k=none)->cY X w0 H0 ν oF w->dI ν (HF X w0 H0 ν oF w) (λt=>bif cC t ev.rd then gS t else none) e->
  k9 P all o e w λv w'=>∃ν',ja ev.nx ev.ef.n ν ν'/\cY X w0 H0 ν' (bQ ev.ef.up oF) w'/\(∀κ,Le (HF X w0 H0 ν oF w κ) (HF X w0 H0 ν' (bQ ev.ef.up oF) w' κ))/\∀f:SF,dI ν' (HF X w0 H0 ν' (bQ ev.ef.up oF) w') f e->dI ν' (HF X w0 H0 ν' (bQ ev.ef.up oF) w') (bQ ev.su f) (j1 e o.dst v)
theorem D0{L:SS}{o:Oper}{ef:Ef}{sv:Option Sv}(hl:LT P (yc L o.op (fh all o)) o.op o.type ef sv)(hw:∀(ν:Nu) (H:Bool->Hp) (e:Env),dI ν H (λt=>bif cC t (fh all o)then aT L.bX t else none) e->iN all o e=true):
 yG P all (aT L.bX) (aT L.bI) ⟨fh all o,nZ L o.op (fh all o),L.nx,o.dst,sv,ef⟩ o:=by
 refine⟨λX w0 H0 ν oF e w ho hn hS hs=>?_⟩;unfold k9;rw[hw ν _ e hs];refine(hl.ok X w0 H0 ν oF e w (λi ob hi=>?_) hn hS ?_).mono ?_
 . have hi:aT (vv (aT L.bI) (nZ L o.op (fh all o))) i=some ob:=hi;rw[Dk]at hi;cases hm:cC i (nZ L o.op (fh all o))with
   |false=>rw[hm]at hi;cases hi
   |true=>rw[hm]at hi;exact ho i ob hm hi
 . have e1:aT (yc L o.op (fh all o)).bX=λt=>bif cC t (fh all o)then aT L.bX t else none:=by funext t;exact Dk
   rw[e1];exact hs
 . rintro v w' ⟨ν',g1,g2,g3,g4,g5⟩;exact⟨ν',g1,g2,g3,λf hf=>by show dI _ _ (bQ (np _ _ _) f) _;rw[rz];exact(hf.ap g4).mi g5⟩
theorem FT{L:SS}{o:Oper}(hw:∀(ν:Nu) (H:Bool->Hp) (e:Env),dI ν H (λt=>bif cC t (fh all o)then aT L.bX t else none) e->iN all o e=false):
 yG P all (aT L.bX) (aT L.bI) ⟨fh all o,[],L.nx,o.dst,some (.fP []),.z⟩ o:=by
 refine⟨λX w0 H0 ν oF e w ho hn hS hs=>?_⟩;unfold k9;rw[hw ν _ e hs];exact⟨ν,ja.refl,hS,λ_=>Le.refl _,λf hf=>by show dI _ _ (bQ (np _ _ _) f) _;rw[rz];exact hf.mi (s:=some (.fP [])) ⟨[],rfl,rfl⟩⟩
theorem OO{o:Oper}{j dj:Nat}{b:Bool}(hg:o.guard=some (j,b))(hj:my all j=some dj):cC dj (fh all o)=true:=by
 refine ju.2 ?_;unfold fh;rw[hg];dsimp only;rw[hj];exact o8 _ (by simp)
def tp(P:Program)(all:List Oper)(gS:SF)(gO:OF)(evs:List Ev)(ops:List Oper):Prop:=evs.length=ops.length/\∀(i:Nat) (ev:Ev) (o:Oper),evs[i]?=some ev->ops[i]?=some o->yG P all (fS Tr 0 (evs.take i) gS) (fO Tr 0 (evs.take i) gO) ev o
theorem tp.snoc{gS:SF}{gO:OF}{evs:List Ev}{ops:List Oper}{ev:Ev}{o:Oper}(h:tp P all gS gO evs ops)(h':yG P all (fS Tr 0 evs gS) (fO Tr 0 evs gO) ev o):tp P all gS gO (evs++[ev]) (ops++[o]):=by
 refine⟨by simp[h.1],λi ev' o' h1 h2=>?_⟩;rcases cH i evs.length with hi|hi
 . rw[kv hi]at h1;rw[kv (by rw[<-h.1];exact hi)]at h2;rw[rO (C2 hi)];exact h.2 i ev' o' h1 h2
 . have hi':i=evs.length:=by
    have:=(ep.1 h1).1;simp at this;omega
   subst hi';rw[oZ (bO _),wI]at h1;rw[h.1,oZ (bO _),wI]at h2;simp at h1 h2;subst h1;subst h2;rw[rO (bO _),uf];exact h'
theorem VB{gS:SF}{evs:List Ev}{ev:Ev}:fS Tr 0 (evs++[ev]) gS=bQ ev.su (fS Tr 0 evs gS):=by rw[Gw];rfl
theorem Ps{gO:OF}{evs:List Ev}{ev:Ev}:fO Tr 0 (evs++[ev]) gO=bQ ev.ef.up (fO Tr 0 evs gO):=by rw[DO];rfl
theorem GD_ok{n0:Nat}{gS:SF}{gO:OF}:∀(f:Nat) (kn:List (Nat×Bool)) (r:List Oper) (acc:List Er) (L:SS) (done:List Oper) (evs:List Ev),all=done++r->evs.map Ev.er=acc.reverse->tp P all gS gO evs done->aT L.bX=fS Tr 0 evs gS->aT L.bI=fO Tr 0 evs gO->
    GD tb F n0 all k f kn r acc L->∃evs' L',tp P all gS gO evs' all/\ry n0 L'.nx all (evs'.map Ev.en)=true/\Gs tb F k L'/\aT L'.bX=fS Tr 0 evs' gS/\aT L'.bI=fO Tr 0 evs' gO:=by
  intro f
  induction f with
  |zero=>intro kn r acc L done evs _ _ _ _ _ h;exact h.elim
  |succ f ih=>
    intro kn r acc L done evs hall hen hev hsl hob h;have h:GDs tb F n0 all k (GD tb F n0 all k f) kn r acc L:=h;cases r with
    |nil=>
      rw[mT]at hall;obtain⟨h1,h2⟩:=h.ok;exact⟨evs,L,by rw[hall];rw[hall]at hev;exact hev,by rw[<-hen,mV]at h1;exact h1,h2,hsl,hob⟩
    |cons o r=>
      have go:∀(kn:List (Nat×Bool)) (L1:SS) (ev:Ev) (L2:SS),aT L1.bX=aT L.bX->aT L1.bI=aT L.bI->yG P all (aT L1.bX) (aT L1.bI) ev o->aT L2.bX=bQ ev.su (aT L1.bX)->aT L2.bI=bQ ev.ef.up (aT L1.bI)->GD tb F n0 all k f kn r (ev.er::acc) L2->
          ∃evs' L',tp P all gS gO evs' all/\ry n0 L'.nx all (evs'.map Ev.en)=true/\Gs tb F k L'/\aT L'.bX=fS Tr 0 evs' gS/\aT L'.bI=fO Tr 0 evs' gO:=by
        intro kn L1 ev L2 q1 q2 q3 q4 q5 q6;rw[q1,q2,hsl,hob]at q3;refine ih kn r _ L2 (done++[o]) (evs++[ev]) (by rw[hall];simp) (by simp[hen]) (hev.snoc q3) ?_ ?_ q6
        . rw[q4,q1,hsl,VB]
        . rw[q5,q2,hob,Ps]
      simp only[GDs]at h;split at h
      . rename_i hg;obtain⟨ef,sv,hl,hk⟩:=zP h;refine go _ L ⟨fh all o,nZ L o.op (fh all o),L.nx,o.dst,sv,ef⟩ _ rfl rfl (D0 hl λν H e hs=>by unfold iN;rw[hg]) ?_ ?_ (oL hk)
        . show _=bQ (np _ _ _) _;rw[rv,sQ,rz]
        . rw[lg.1,pF]
      . rename_i j b hg;split at h
        . rename_i dj hj;have hmj:=OO hg hj;split at h
          . rename_i x hx;have e0:aT (L.set dj (eM (.bool x))).bX=aT L.bX:=by rw[KY,J8 (show aT L.bX dj=eM (.bool x) from hx)]
            have hwt:∀(L1:SS),aT L1.bX=aT L.bX->∀(ν:Nu) (H:Bool->Hp) (e:Env),dI ν H (λt=>bif cC t (fh all o)then aT L1.bX t else none) e->iN all o e=(x==b):=by
              intro L1 h1 ν H e hs;have:=hs dj (.s (.lf (.v (.bool x)))) (by show(bif cC dj _ then aT L1.bX dj else none)=_;rw[h1,hmj];exact hx);exact D3 hg hj this.1
            split at h
            . rename_i x' _;split at h
              . rename_i hk0;have e1:x=x':=by
                  rw[n9]at hk0;simpa using hk0
                subst e1;split at h
                . rename_i hk;obtain⟨ef,sv,hl,hkk⟩:=zP h;refine go _ L ⟨fh all o,nZ L o.op (fh all o),L.nx,o.dst,sv,ef⟩ _ rfl rfl (D0 hl λν H e hs=>by rw[hwt _ rfl ν H e hs,<-n9];exact hk) ?_ ?_ (oL hkk)
                  . show _=bQ (np _ _ _) _;rw[rv,sQ,rz]
                  . rw[lg.1,pF]
                . rename_i hk;refine go _ L ⟨fh all o,[],L.nx,o.dst,some (.fP []),.z⟩ _ rfl rfl (FT λν H e hs=>by rw[hwt _ rfl ν H e hs,<-n9];exact hk) ?_ ?_ (oL h)
                  . show _=bQ (np _ _ _) _;rw[tq,rv,rz];rfl
                  . rw[tq,lg.1];rfl
              . exact h.elim
            . have h:=Jg h;split at h
              . rename_i hk;obtain⟨ef,sv,hl,hkk⟩:=zP (BW h);refine go _ (L.set dj (eM (.bool x))) ⟨fh all o,nZ (L.set dj (eM (.bool x))) o.op (fh all o),L.nx,o.dst,sv,ef⟩ _ e0 rfl (D0 hl λν H e hs=>by rw[hwt _ e0 ν H e hs,<-n9];exact hk) ?_ ?_ (oL hkk)
                . show _=bQ (np _ _ _) _;rw[rv,sQ,rz]
                . rw[lg.1,pF]
              . rename_i hk;refine go _ (L.set dj (eM (.bool x))) ⟨fh all o,[],L.nx,o.dst,some (.fP []),.z⟩ _ e0 rfl (FT λν H e hs=>by rw[hwt _ e0 ν H e hs,<-n9];exact hk) ?_ ?_ (oL (BW h))
                . show _=bQ (np _ _ _) _;rw[tq,rv,rz];rfl
                . rw[tq,lg.1];rfl
          . rename_i hx;refine go _ L ⟨fh all o,[],L.nx,o.dst,some (.fP []),.z⟩ _ rfl rfl (FT λν H e hs=>?_) ?_ ?_ (oL h)
            . exact Lp hg hj (L6 (hs dj (.fP []) (by show(bif cC dj _ then aT L.bX dj else none)=_;rw[hmj];exact hx)))
            . show _=bQ (np _ _ _) _;rw[tq,rv,rz];rfl
            . rw[tq,lg.1];rfl
          . exact h.elim
        . exact h.elim
def JD(F:Fx)(gS:SF)(gO:OF)(evs:List Ev)(nE:Nat)(D:Nat->Bool)(e:Env)(w:World):Prop:= ∃ν,cY F.X F.w0 F.H0 ν (fO D 0 evs gO) w/\dI ν (HF F.X F.w0 F.H0 ν (fO D 0 evs gO) w) (fS D 0 evs gS) e/\(∀i ev,evs[i]?=some ev->D i=false->∀k,ev.nx<=k->k<ev.nx+ev.ef.n->ν k=none)/\(∀k,nE<=k->ν k=none)/\∀k,k<F.m->ν k=F.ν0 k
theorem Gx{D:Nat->Bool}{evs:List Ev}{i:Nat}{ev:Ev}{f:OF}(h:evs[i]?=some ev):fO D 0 evs f=fO D (i+1) (evs.drop (i+1)) (bif D i then bQ ev.ef.up (fO D 0 (evs.take i) f)else fO D 0 (evs.take i) f):=by
 have hlt:=(ep.1 h).1;have h1:evs=evs.take i++ev::evs.drop (i+1):=by
  conv=>lhs;rw[<-nT i evs]
  rw[fJ hlt,(ep.1 h).2]
 conv=>lhs;rw[h1]
 rw[DO];have:(evs.take i).length=i:=by simp;omega
 rw[this,fb];rfl
theorem GH{D:Nat->Bool}{evs:List Ev}{i:Nat}{ev:Ev}{f:SF}(h:evs[i]?=some ev):fS D 0 evs f=fS D (i+1) (evs.drop (i+1)) (bif D i then bQ ev.su (fS D 0 (evs.take i) f)else fS D 0 (evs.take i) f):=by
 have hlt:=(ep.1 h).1;have h1:evs=evs.take i++ev::evs.drop (i+1):=by
  conv=>lhs;rw[<-nT i evs]
  rw[fJ hlt,(ep.1 h).2]
 conv=>lhs;rw[h1]
 rw[Gw];have:(evs.take i).length=i:=by simp;omega
 rw[this,fb];rfl
theorem Tg{n0:Nat}(hn0:F.m<=n0){gS:SF}{gO:OF}{evs:List Ev}{nE:Nat}(hev:tp P all gS gO evs all)(hc:ry n0 nE all (evs.map Ev.en)=true){D:Nat->Bool}{i:Nat}{o:Oper}{e:Env}{w:World}(ho:all[i]?=some o)(hD:D i=false)(hd:∀d∈fy o,D d=true)
 (hcl:∀j oj,all[j]?=some oj->D j=true->∀d∈fy oj,D d=true)(hJ:JD F gS gO evs nE D e w):k9 P all o e w λv w'=>JD F gS gO evs nE (λj=>D j||Nat.beq j i) (j1 e o.dst v) w':=by
 simp only[ry,fZ]at hc;obtain⟨⟨⟨⟨_,hb⟩,_⟩,hrg⟩,hce⟩:=hc;have hi:i<all.length:=(ep.1 ho).1;have hie:i<evs.length:=by rw[hev.1];exact hi
 obtain⟨ev,hevi⟩:∃ev,evs[i]?=some ev:=⟨_,cy hie⟩;have ev_ok:=hev.2 i ev o hevi ho;have en_at:∀{j:Nat} {q:Ev},evs[j]?=some q->(evs.map Ev.en)[j]?=some q.en:=λh=>by rw[ij,h];rfl
 have rng:∀{j:Nat} {q:Ev},evs[j]?=some q->n0<=q.nx/\q.nx+q.ef.n<=nE:=by
  intro j q h;have:=tY.1 hrg q.en (nR (en_at h));simp only[fZ]at this;have h1:n0<=0+q.nx:=kR this.1;have h2:0+(q.nx+q.ef.n)<=nE:=kR this.2;exact⟨by omega,by omega⟩
 have post:∀{j:Nat} {q:Ev},evs[j]?=some q->i<j->D j=true->n5 ev.en q.en=true:=by
  intro j q h hlt hDj;rcases(BQ hce i j _ _ (en_at hevi) (en_at h) hlt).2 with h1|h1
  . rw[fb,fb]at h1;have hj:j<all.length:=by rw[<-hev.1];exact(ep.1 h).1
    have hjo:all[j]?=some all[j]:=cy hj;have:=Lr hb hcl j _ i hjo (hcl j _ hjo hDj) h1;rw[hD]at this;cases this
  . exact h1
 have pre:∀{j:Nat} {p:Ev},evs[j]?=some p->j<i->D j=true\/n5 p.en ev.en=true:=by
  intro j p h hlt;rcases(BQ hce j i _ _ (en_at h) (en_at hevi) hlt).2 with h1|h1
  . rw[fb,fb]at h1;exact .inl (Lr hb hcl i o j ho hd h1)
  . exact .inr h1
 have symN:∀{x:Nat} {a b:List Nat},(∀y∈a,cC y b=false)->x∈b->cC x a=false:=by
  intro x a b h hx;cases hm:cC x a with
  |false=>rfl
  |true=>have:=h x (ju.1 hm);rw[ju.2 hx]at this;cases this
 have dropAt:∀{j:Nat} {q:Ev},(evs.drop (i+1))[j]?=some q->evs[i+1+j]?=some q:=λh=>by rw[tX]at h;exact h
 have takeAt:∀{j:Nat} {p:Ev},(evs.take i)[j]?=some p->j<i/\evs[j]?=some p:=by
  intro j p h;rw[wH]at h;split at h
  . exact⟨by assumption,h⟩
  . cases h
 have rdO:∀x,cC x ev.ro=true->fO D 0 evs gO x=fO Tr 0 (evs.take i) gO x:=by
  intro x hx;have hx:=ju.1 hx;rw[Gx hevi,hD];have h1:fO D (i+1) (evs.drop (i+1)) (fO D 0 (evs.take i) gO) x=fO (λ_=>false) (i+1) (evs.drop (i+1)) (fO D 0 (evs.take i) gO) x:=by
   refine tu λj q hj=>?_;cases hDj:D (i+1+j)with
   |false=>exact .inl rfl
   |true=>exact .inr ((vF (post (dropAt hj) (by omega) hDj)).2.2.1 x hx)
  have h2:∀(l:List Ev) (j:Nat) (f:OF),fO (λ_=>false) j l f=f:=by
   intro l
   induction l with
   |nil=>intro j f;rfl
   |cons a r ih=>intro j f;exact ih (j+1) f
  show fO D (i+1) (evs.drop (i+1)) (fO D 0 (evs.take i) gO) x=_;rw[h1,h2];refine tu λj p hj=>?_;obtain⟨hlt,hp⟩:=takeAt hj;rw[fb];rcases pre hp hlt with h|h
  . exact .inl h
  . exact .inr ((vF h).1 x hx)
 have rdS:∀t,cC t ev.rd=true->fS D 0 evs gS t=fS Tr 0 (evs.take i) gS t:=by
  intro t ht;have ht:=ju.1 ht;rw[GH hevi,hD];have h1:fS D (i+1) (evs.drop (i+1)) (fS D 0 (evs.take i) gS) t=fS (λ_=>false) (i+1) (evs.drop (i+1)) (fS D 0 (evs.take i) gS) t:=by
   refine tj λj q hj=>?_;cases hDj:D (i+1+j)with
   |false=>exact .inl rfl
   |true=>exact .inr ((vF (post (dropAt hj) (by omega) hDj)).2.2.2.2.1 t ht)
  have h2:∀(l:List Ev) (j:Nat) (f:SF),fS (λ_=>false) j l f=f:=by
   intro l
   induction l with
   |nil=>intro j f;rfl
   |cons a r ih=>intro j f;exact ih (j+1) f
  show fS D (i+1) (evs.drop (i+1)) (fS D 0 (evs.take i) gS) t=_;rw[h1,h2];refine tj λj p hj=>?_;obtain⟨hlt,hp⟩:=takeAt hj;rw[fb];rcases pre hp hlt with h|h
  . exact .inl h
  . exact .inr ((vF h).2.2.2.1 t ht)
 obtain⟨ν,k1,k2,k3,k4,k5⟩:=hJ;have eO:fO (λj=>D j||Nat.beq j i) 0 evs gO=bQ ev.ef.up (fO D 0 evs gO):=by
  funext x;rw[Gx (D:=λj=>D j||Nat.beq j i) hevi,Gx (D:=D) hevi,hD,rL];have h1:fO (λj=>D j||Nat.beq j i) 0 (evs.take i) gO=fO D 0 (evs.take i) gO:=by
   funext y;refine tu λj p hj=>.inl ?_;obtain⟨hlt,_⟩:=takeAt hj;rw[fb];have:Nat.beq j i=false:=by
    cases hb2:Nat.beq j i with
    |false=>rfl
    |true=>have:=dV hb2;omega
   simp[this]
  have h2:∀(f:OF),fO (λj=>D j||Nat.beq j i) (i+1) (evs.drop (i+1)) f=fO D (i+1) (evs.drop (i+1)) f:=by
   intro f;funext y;refine tu λj p hj=>.inl ?_;have:Nat.beq (i+1+j) i=false:=by
    cases hb2:Nat.beq (i+1+j) i with
    |false=>rfl
    |true=>have:=dV hb2;omega
   simp[this]
  show fO _ (i+1) (evs.drop (i+1)) (bif false||true then bQ ev.ef.up (fO _ 0 (evs.take i) gO)else _) x=bQ ev.ef.up (fO D (i+1) (evs.drop (i+1)) (fO D 0 (evs.take i) gO)) x;rw[h2,h1];show fO D (i+1) (evs.drop (i+1)) (bQ ev.ef.up (fO D 0 (evs.take i) gO)) x=_;cases hm:cC x ev.ks with
  |false=>
   rw[ku hm];exact FA (ku hm)
  |true=>
   have hx:=ju.1 hm;have h3:∀(l:List Ev) (j:Nat) (f:OF),fO (λ_=>false) j l f=f:=by
    intro l
    induction l with
    |nil=>intro j f;rfl
    |cons a r ih=>intro j f;exact ih (j+1) f
   rw[show fO D (i+1) (evs.drop (i+1)) (bQ ev.ef.up (fO D 0 (evs.take i) gO)) x=fO (λ_=>false) (i+1) (evs.drop (i+1)) (bQ ev.ef.up (fO D 0 (evs.take i) gO)) x from by
    refine tu λj q hj=>?_;cases hDj:D (i+1+j)with
    |false=>exact .inl rfl
    |true=>exact .inr (symN (vF (post (dropAt hj) (by omega) hDj)).2.1 hx),h3]
   exact rq hm
 have eS:fS (λj=>D j||Nat.beq j i) 0 evs gS=bQ ev.su (fS D 0 evs gS):=by
  funext x;rw[GH (D:=λj=>D j||Nat.beq j i) hevi,GH (D:=D) hevi,hD,rL];have h1:fS (λj=>D j||Nat.beq j i) 0 (evs.take i) gS=fS D 0 (evs.take i) gS:=by
   funext y;refine tj λj p hj=>.inl ?_;obtain⟨hlt,_⟩:=takeAt hj;rw[fb];have:Nat.beq j i=false:=by
    cases hb2:Nat.beq j i with
    |false=>rfl
    |true=>have:=dV hb2;omega
   simp[this]
  have h2:∀(f:SF),fS (λj=>D j||Nat.beq j i) (i+1) (evs.drop (i+1)) f=fS D (i+1) (evs.drop (i+1)) f:=by
   intro f;funext y;refine tj λj p hj=>.inl ?_;have:Nat.beq (i+1+j) i=false:=by
    cases hb2:Nat.beq (i+1+j) i with
    |false=>rfl
    |true=>have:=dV hb2;omega
   simp[this]
  show fS _ (i+1) (evs.drop (i+1)) (bif false||true then bQ ev.su (fS _ 0 (evs.take i) gS)else _) x=bQ ev.su (fS D (i+1) (evs.drop (i+1)) (fS D 0 (evs.take i) gS)) x;rw[h2,h1];show fS D (i+1) (evs.drop (i+1)) (bQ ev.su (fS D 0 (evs.take i) gS)) x=_;cases hm:cC x (ev.su.map (·.1))with
  |false=>
   rw[ku hm];exact Em (ku hm)
  |true=>
   have hx:=ju.1 hm;have h3:∀(l:List Ev) (j:Nat) (f:SF),fS (λ_=>false) j l f=f:=by
    intro l
    induction l with
    |nil=>intro j f;rfl
    |cons a r ih=>intro j f;exact ih (j+1) f
   rw[show fS D (i+1) (evs.drop (i+1)) (bQ ev.su (fS D 0 (evs.take i) gS)) x=fS (λ_=>false) (i+1) (evs.drop (i+1)) (bQ ev.su (fS D 0 (evs.take i) gS)) x from by
    refine tj λj q hj=>?_;cases hDj:D (i+1+j)with
    |false=>exact .inl rfl
    |true=>exact .inr ((vF (post (dropAt hj) (by omega) hDj)).2.2.2.2.2 x hx),h3]
   exact rq hm
 refine(ev_ok.ok F.X F.w0 F.H0 ν (fO D 0 evs gO) e w (λj ob hj hg=>by rw[rdO j hj];exact hg) (k3 i ev hevi hD) k1 ?_).mono ?_
 . intro t sv ht;have ht:(bif cC t ev.rd then fS Tr 0 (evs.take i) gS t else none)=some sv:=ht;cases hm:cC t ev.rd with
   |false=>rw[hm]at ht;cases ht
   |true=>rw[hm]at ht;exact k2 t sv (by rw[rdS t hm];exact ht)
 . rintro v w' ⟨ν',g1,g2,g3,g4⟩;have hle:=g1.le (k3 i ev hevi hD);refine⟨ν',by rw[eO];exact g2,?_,λj q hq hDj k hk1 hk2=>?_,λk hk=>?_,λk hk=>?_⟩
   . rw[eO,eS];exact g4 _ (k2.mono hle g3)
   . simp only[Hj]at hDj;have hne:j≠i:=by rintro rfl;rw[rL]at hDj;cases hDj.2
     rw[g1 k,k3 j q hq hDj.1 k hk1 hk2];rcases cH j i with hlt|hge
     . have:=(BQ hce j i _ _ (en_at hq) (en_at hevi) hlt).1;have this:0+(q.nx+q.ef.n)<=0+ev.nx:=this;exact .inl (by omega)
     . have:=(BQ hce i j _ _ (en_at hevi) (en_at hq) (by omega)).1;have this:0+(ev.nx+ev.ef.n)<=0+q.nx:=this;exact .inr (by omega)
   . have:=(rng hevi).2;rw[g1 k (.inr (by omega))];exact k4 k hk
   . have:=(rng hevi).1;rw[g1 k (.inl (by omega))];exact k5 k hk
theorem Nx{evs:List Ev}:∀{j:Nat} {f:OF},fO (λ_=>false) j evs f=f:=by
 induction evs with
 |nil=>intro j f;rfl
 |cons a r ih=>intro j f;exact ih
theorem fS_no{evs:List Ev}:∀{j:Nat} {f:SF},fS (λ_=>false) j evs f=f:=by
 induction evs with
 |nil=>intro j f;rfl
 |cons a r ih=>intro j f;exact ih
theorem dr{id:Nat}{L:SS}(hm:P.follows .mixedOrders=true)(h:GD tb F L.nx all k wz [] all [] L)(hd:mu F.n all=true:=by rfl):jM tb F (.code (.region id all.toArray true)::k) L:=by
 obtain⟨evs,L',hev,hc,hG,hsl,hob⟩:=GD_ok (all:=all) (gS:=aT L.bX) (gO:=aT L.bI) wz [] all [] L [] [] (by rfl:all=[]++all) rfl ⟨rfl,λi ev o h=>by simp at h⟩ rfl rfl h;have hc':=hc;simp only[ry,fZ]at hc';obtain⟨⟨⟨⟨⟨_,hn⟩,hb⟩,_⟩,hrg⟩,hce⟩:=hc';have hn:=kR hn;refine⟨λe w hs=>?_⟩;obtain⟨ν,g1,g2,g3,g4,g5⟩:=hs;refine cI.drawJ (J:=JD F (aT L.bX) (aT L.bI) evs L'.nx) hm hd hb (λw1 h1 h2 h3 h4=>?_) (λD i o e w ho hD hdd hcl hJ=>Tg g2 hev hc ho hD hdd hcl hJ) (λD e' w' hD hJ=>?_)
 . obtain⟨q1,q2⟩:=g4.same h1 h2 h3 h4;refine⟨ν,by rw[Nx];exact q1,by rw[Nx,fS_no,q2];exact g5,λi ev hi _ k hk _=>g1 k ?_,λk hk=>g1 k (by omega),g3⟩;have:=tY.1 hrg ev.en (dR.2 ⟨ev,nR hi,rfl⟩);simp only[fZ]at this;have:=kR this.1;have:L.nx<=0+ev.nx:=this;omega
 . obtain⟨ν',q1,q2,q3,q4,q5⟩:=hJ;have e1:fO D 0 evs (aT L.bI)=aT L'.bI:=by
    rw[hob];funext x;refine tu λi ev hi=>.inl ?_;rw[fb];exact hD i (by rw[<-hev.1];exact(ep.1 hi).1)
   have e2:fS D 0 evs (aT L.bX)=aT L'.bX:=by
    rw[hsl];funext x;refine tj λi ev hi=>.inl ?_;rw[fb];exact hD i (by rw[<-hev.1];exact(ep.1 hi).1)
   rw[e1]at q1 q2;rw[e2]at q2;exact(Gs.ok hG).ok e' w' ⟨ν',q4,by omega,q5,q1,q2⟩
end
open Go Go.RowKit Go.X
variable [fq]
def iV:List Nat->Nat->Option Nat
 |[],_=>none
 |x::r,i=>bif Nat.beq x i then some 0 else match iV r i with
  |some j=>some (j+1)
  |none=>none
theorem me:∀{l:List Nat} {i j:Nat},iV l i=some j->l[j]?=some i
 |[],_,_,h=>by cases h
 |x::r,i,j,h=>by
  unfold iV at h;cases hb:Nat.beq x i with
  |true=>rw[hb]at h;cases h;rw[dV hb];rfl
  |false=>
   rw[hb]at h;simp only[cond_false]at h;split at h
   . rename_i j' hj;cases h;simpa using me hj
   . cases h
theorem Gq:∀{l:List Nat} {i:Nat},iV l i=none->i∉l
 |[],_,_,h=>by cases h
 |x::r,i,h,hm=>by
  unfold iV at h;cases hb:Nat.beq x i with
  |true=>rw[hb]at h;cases h
  |false=>
   rw[hb]at h;simp only[cond_false]at h;rcases ej.1 hm with h1|h1
   . subst h1;simp at hb
   . split at h
     . cases h
     . rename_i hj;exact Gq hj h1
def wk:Bool->Bool->Bool
 |true,κ=>κ
 |false,_=>false
def cvL(bI:OF)(ren:List Nat):Lf->Lf->Option Lf
 |.own i,.ro _ κ' _=>match iV ren i with
  |some _=>none
  |none=>match bI i with
   |some (.row r κ xs)=>some (.ro r (wk κ κ') xs)
   |_=>none
 |.own i,.ap _ _ κ' _=>match iV ren i with
  |some j=>match bI i with
   |some (.row r κ xs)=>some (.ap j r (wk κ κ') xs)
   |_=>none
  |none=>none
 |.own i,_=>match iV ren i with
  |some j=>some (.own j)
  |none=>none
 |.ap i r κ xs,.ap _ _ κ' _=>match iV ren i with
  |some j=>some (.ap j r (wk κ κ') xs)
  |none=>none
 |.ptr i o,_=>match iV ren i with
  |some j=>some (.ptr j o)
  |none=>none
 |.mp i,_=>match iV ren i with
  |some j=>some (.mp j)
  |none=>none
 |.sg i sz lo hi,_=>match iV ren i with
  |some j=>some (.sg j sz lo hi)
  |none=>none
 |.pd q,_=>some (.pd q)
 |.ro r κ xs,.ro _ κ' _=>some (.ro r (wk κ κ') xs)
 |.cp r κ xs,.ro _ κ' _=>some (.ro r (wk κ κ') xs)
 |.cp r κ xs,.cp _ κ' _=>some (.cp r (wk κ κ') xs)
 |.v (.slice none 0 0),.ro r κ _=>some (.ro r κ [])
 |.v x,_=>some (.v x)
 |_,_=>none
def uM(bI:OF)(ren:List Nat):List Lf->List Lf->Option (List Lf)
 |[],[]=>some []
 |a::r,b::s=>match cvL bI ren a b with
  |some x=>match uM bI ren r s with
   |some y=>some (x::y)
   |none=>none
  |none=>none
 |_,_=>none
def cvS(bI:OF)(ren:List Nat):S1->S1->Option S1
 |.lf a,.lf b=>match cvL bI ren a b with
  |some x=>some (.lf x)
  |none=>none
 |.agg a,.agg b=>match uM bI ren a b with
  |some x=>some (.agg x)
  |none=>none
 |_,_=>none
def yI(bI:OF)(ren:List Nat):List S1->List S1->Option (List S1)
 |[],[]=>some []
 |a::r,b::s=>match cvS bI ren a b with
  |some x=>match yI bI ren r s with
   |some y=>some (x::y)
   |none=>none
  |none=>none
 |_,_=>none
def cvV(bI:OF)(ren:List Nat):Sv->Sv->Option Sv
 |.s a,.s b=>match cvS bI ren a b with
  |some x=>some (.s x)
  |none=>none
 |.fP a,.fP b=>match yI bI ren a b with
  |some x=>some (.fP x)
  |none=>none
 |.pr κ a o,.pr κ' b _=>match uM bI ren a b with
  |some x=>some (.pr (wk κ κ') x o)
  |none=>none
 |_,_=>none
def ve(bI:OF)(ren:List Nat)(k:Nat):Ob->Ob->Option Ob
 |.row r κ xs,.row _ κ' _=>some (.row r (wk κ κ') xs)
 |.row r κ xs,.aO _ κ' _=>some (.aO r (wk κ κ') xs)
 |.aO r κ xs,.aO _ κ' _=>some (.aO r (wk κ κ') xs)
 |.box a,.box b=>match uM bI ren a b with
  |some x=>some (.box x)
  |none=>none
 |.map dk kf vf m,.map _ _ _ _=>some (.map dk kf vf m)
 |.deep j D xs [],.deep _ _ _ _=>match ren[k]?with
  |some i=>match Nat.beq i j with
   |true=>some (.deep k D xs [])
   |false=>none
  |none=>none
 |_,_=>none
def lR(bI:OF)(ren:List Nat):List (Nat×Option Ob)->Option (List (Nat×Option Ob))
 |[]=>some []
 |(k,some b)::r=>match ren[k]?with
  |some i=>match bI i with
   |some a=>match ve bI ren k a b with
    |some x=>match lR bI ren r with
     |some y=>some ((k,some x)::y)
     |none=>none
    |none=>none
   |none=>none
  |none=>none
 |(k,none)::r=>match lR bI ren r with
  |some y=>some ((k,none)::y)
  |none=>none
def oJ(L:SS)(ren:List Nat):List (Nat×Option Sv)->Option (List (Nat×Option Sv))
 |[]=>some []
 |(t,some b)::r=>match aT L.bX t with
  |some a=>match cvV (aT L.bI) ren a b with
   |some x=>match oJ L ren r with
    |some y=>some ((t,some x)::y)
    |none=>none
   |none=>none
  |none=>none
 |(_,none)::_=>none
def ez(ν:Nu)(ren:List Nat):Nu:=⟨λk=>(ren[k]?).bind ν.f,ν.tl,ν.tc⟩
def eQ:Nat->List Ob->List (Nat×Option Ob)
 |_,[]=>[]
 |i,x::r=>(i,some x)::eQ (i+1) r
def aZ(n:Nat)(de:List Ob)(bX:List (Nat×Option Sv)):SS:=⟨n,eQ 0 de,bX⟩
section
variable {ν:Nu} {ren:List Nat} {bI:OF} {H H':Bool->Hp}
theorem kG{j i:Nat}{x:Option Nat×Nat×Nat}(h:ren[j]?=some i)(hx:ν i=some x):ez ν ren j=some x:=by
 show(ren[j]?).bind ν.f=some x;rw[h];exact hx
theorem qI{k:Nat}:ez ν ren k=(ren[k]?).bind ν.f:=rfl
theorem uA{k i:Nat}(h:ren[k]?=some i):dK (ez ν ren) k=dK ν i:=by unfold dK;rw[qI,h];rfl
theorem nj(hw:Le (H' true) (H' false))(hH:∀κ,Le (H κ) (H' κ)):∀κ κ',Le (H κ) (H' (wk κ κ'))
 |true,true=>hH true
 |true,false=>Le.trans (hH true) hw
 |false,_=>hH false
structure Sn (ν:Nu)(H H':Bool->Hp)(bI:OF)(ren:List Nat):Prop where
 le:∀κ,Le (H κ) (H' κ)
 wk:Le (H' true) (H' false)
 ln:∀(i:Nat) (α:Type) (r:bZ α) (κ:Bool) (xs:List α) (b:Option Nat) (c n:Nat),bI i=some (.row r κ xs)->ν i=some (b,c,n)->n=xs.length/\(b=none->xs=[])
 fz:∀(i:Nat) (α:Type) (r:bZ α) (κ:Bool) (xs:List α) (a:Value),iV ren i=none->bI i=some (.row r κ xs)->(Lf.own i).R ν H a->Rs r (H' κ) a xs
theorem HX(hs:Sn ν H H' bI ren){x y l:Lf}{a:Value}(h:cvL bI ren x y=some l)(hr:x.R ν H a):l.R (ez ν ren) H' a:=by
 unfold cvL at h;split at h
 . split at h
   . cases h
   . rename_i hp;split at h
     . rename_i ho;cases h;exact Rs.mono (hs.fz _ _ _ _ _ _ hp ho hr) (nj hs.wk (λ_=>Le.refl _) _ _)
     . cases h
 . split at h
   . rename_i j hj;split at h
     . rename_i ho;cases h;obtain⟨b,c,n,h1,h2⟩:=hr;obtain⟨e1,e2⟩:=hs.ln _ _ _ _ _ _ _ _ ho h1;exact⟨b,c,n,kG (me hj) h1,.inl ⟨e1,e2,h2⟩⟩
     . cases h
   . cases h
 . split at h
   . rename_i j hj;cases h;obtain⟨b,c,n,h1,h2⟩:=hr;exact⟨b,c,n,kG (me hj) h1,h2⟩
   . cases h
 . split at h
   . rename_i j hj;cases h;obtain⟨b,c,n,h1,h2⟩:=hr;exact⟨b,c,n,kG (me hj) h1,h2.imp id λg=>⟨g.1,Rs.mono g.2.1 (nj hs.wk hs.le _ _),g.2.2⟩⟩
   . cases h
 . split at h
   . rename_i j hj;cases h;obtain⟨b,c,h1,h2⟩:=hr;exact⟨b,c,kG (me hj) h1,h2⟩
   . cases h
 . split at h
   . rename_i j hj;cases h;obtain⟨b,c,h1,h2⟩:=hr;exact⟨b,c,kG (me hj) h1,h2⟩
   . cases h
 . split at h
   . rename_i j hj;cases h;obtain⟨b,c,m,k,cp,h1,h2⟩:=hr;exact⟨b,c,m,k,cp,kG (me hj) h1,h2⟩
   . cases h
 . cases h;exact Pd.mono _ _ _ _ hs.le hr
 . cases h;exact Rs.mono hr (nj hs.wk hs.le _ _)
 . cases h;exact Rs.mono hr.1 (nj hs.wk hs.le _ _)
 . cases h;exact⟨Rs.mono hr.1 (nj hs.wk hs.le _ _),hr.2⟩
 . cases h;obtain⟨h1,_⟩:=hr;rw[h1];exact Rs.nil
 . cases h;exact hr
 . cases h
theorem Bo(hs:Sn ν H H' bI ren):∀{x y l:List Lf} {a:List Value},uM bI ren x y=some l->dd ν H x a->dd (ez ν ren) H' l a
 |[],[],l,a,h,hr=>by cases h;exact hr
 |x::r,y::s,l,a,h,hr=>by
  simp only[uM]at h;split at h
  . rename_i u hu;split at h
    . rename_i z hz;cases h;obtain⟨a,az,h1,h2,h3⟩:=hr;exact⟨a,az,h1,HX hs hu h2,Bo hs hz h3⟩
    . cases h
  . cases h
 |[],_::_,_,_,h,_=>by cases h
 |_::_,[],_,_,h,_=>by cases h
theorem HM(hs:Sn ν H H' bI ren){x y l:S1}{a:Value}(h:cvS bI ren x y=some l)(hr:x.R ν H a):l.R (ez ν ren) H' a:=by
 unfold cvS at h;split at h
 . split at h
   . rename_i u hu;cases h;exact HX hs hu hr
   . cases h
 . split at h
   . rename_i u hu;cases h;obtain⟨vs,h1,h2⟩:=hr;exact⟨vs,h1,Bo hs hu h2⟩
   . cases h
 . cases h
theorem Fi(hs:Sn ν H H' bI ren):∀{x y l:List S1} {a:List Value},yI bI ren x y=some l->ee ν H x a->ee (ez ν ren) H' l a
 |[],[],l,a,h,hr=>by cases h;exact hr
 |x::r,y::s,l,a,h,hr=>by
  simp only[yI]at h;split at h
  . rename_i u hu;split at h
    . rename_i z hz;cases h;obtain⟨a,az,h1,h2,h3⟩:=hr;exact⟨a,az,h1,HM hs hu h2,Fi hs hz h3⟩
    . cases h
  . cases h
 |[],_::_,_,_,h,_=>by cases h
 |_::_,[],_,_,h,_=>by cases h
theorem Ve(hs:Sn ν H H' bI ren){x y l:Sv}{a:Value}(h:cvV bI ren x y=some l)(hr:x.R ν H a):l.R (ez ν ren) H' a:=by
 unfold cvV at h;split at h
 . split at h
   . rename_i u hu;cases h;exact HM hs hu hr
   . cases h
 . split at h
   . rename_i u hu;cases h;obtain⟨vs,h1,h2⟩:=hr;exact⟨vs,h1,Fi hs hu h2⟩
   . cases h
 . split at h
   . rename_i u hu;cases h;obtain⟨b,o,vs,h1,h2,h3⟩:=hr;exact⟨b,o,vs,h1,h2.mono (nj hs.wk hs.le _ _),Bo hs hu h3⟩
   . cases h
 . cases h
theorem OG(hs:Sn ν H H' bI ren){q:Nat}{x y l:Ob}{c n:Nat}{k:df}(h:ve bI ren q x y=some l)(hr:x.R ν H c n k):l.R (ez ν ren) H' c n k:=by
 unfold ve at h;split at h
 . cases h;obtain⟨e1,e0,cs,sp,e2,e3,e4⟩:=hr;exact⟨e1,e0,cs,sp,e2,e3.mono (nj hs.wk hs.le _ _),e4⟩
 . cases h;obtain⟨e1,e0,cs,sp,e2,e3,e4⟩:=hr;exact⟨e0,.inl ⟨e1,cs,sp,e2,e3.mono (nj hs.wk hs.le _ _),e4⟩⟩
 . cases h;obtain⟨e0,hr⟩:=hr;exact⟨e0,hr.imp (λ⟨e1,cs,sp,e2,e3,e4⟩=>⟨e1,cs,sp,e2,e3.mono (nj hs.wk hs.le _ _),e4⟩) id⟩
 . split at h
   . rename_i u hu;cases h;obtain⟨vs,e1,e2⟩:=hr;exact⟨vs,e1,Bo hs hu e2⟩
   . cases h
 . cases h;exact hr
 . split at h
   . rename_i i hi;split at h
     . rename_i hb;cases h;have e:=dV hb;subst e;obtain⟨h1,h2,t,c',n',cs,sp,FB,FC,h0,h3,h4,h5,h6,h7,h8,h9⟩:=hr;exact⟨h1,h2,t,c',n',cs,sp,FB,FC,kG hi h0,h3,h4,h5,h6,h7,h8,λh hh=>by cases hh⟩
     . cases h
   . cases h
 . cases h
theorem vB{k:Nat}{x y l:Ob}(h:ve bI ren k x y=some l):(l.tid=none↔x.tid=none)/\∀j,l.tid=some j->j=k:=by
 unfold ve at h;split at h
 . cases h;exact⟨nX,λj hj=>by cases hj⟩
 . cases h;exact⟨nX,λj hj=>by cases hj⟩
 . cases h;exact⟨nX,λj hj=>by cases hj⟩
 . split at h
   . cases h;exact⟨nX,λj hj=>by cases hj⟩
   . cases h
 . cases h;exact⟨nX,λj hj=>by cases hj⟩
 . split at h
   . split at h
     . cases h;exact⟨⟨λh=>(by cases h),λh=>(by cases h)⟩,λj hj=>by cases hj;rfl⟩
     . cases h
   . cases h
 . cases h
theorem Mm{x l:Ob}{k i:Nat}(hk:ren[k]?=some i)(ht:l.tid=none↔x.tid=none):iv (ez ν ren) k l=iv ν i x:=by
 unfold iv;rw[uA hk];cases hl:l.tid with
 |none=>rw[ht.1 hl]
 |some a=>cases hx:x.tid with
  |none=>rw[ht.2 hx]at hl;cases hl
  |some b=>rfl
theorem Ac{x l:Ob}{k i b:Nat}(hk:ren[k]?=some i)(ht:l.tid=none↔x.tid=none):gg (ez ν ren) k l b↔gg ν i x b:=by
 unfold gg;rw[uA hk,Mm hk ht];exact nX
theorem I8{L:SS}(hs:Sn ν H H' (aT L.bI) ren){e:Env}(hS:dI ν H (aT L.bX) e):∀{l l':List (Nat×Option Sv)},oJ L ren l=some l'->dI (ez ν ren) H' (aT l') e
 |[],_,h=>by cases h;intro t sv ht;cases ht
 |(t,some b)::r,_,h=>by
  simp only[oJ]at h;split at h
  . rename_i a ha;split at h
    . rename_i x hx;split at h
      . rename_i y hy;cases h;intro t' sv ht;have ht:(bif Nat.beq t' t then some x else aT y t')=some sv:=ht;cases hb:Nat.beq t' t with
        |true=>rw[hb]at ht;cases ht;have:=dV hb;subst this;exact Ve hs hx (hS _ _ ha)
        |false=>rw[hb]at ht;exact I8 hs hS hy t' sv ht
      . cases h
    . cases h
  . cases h
 |(_,none)::_,_,h=>by simp only[oJ]at h;cases h
theorem qE:∀{l l':List (Nat×Option Ob)} {k:Nat} {ob:Ob},lR bI ren l=some l'->aT l' k=some ob->∃i a b,ren[k]?=some i/\bI i=some a/\ve bI ren k a b=some ob
 |[],_,k,ob,h,hk=>by cases h;cases hk
 |(j,some b)::r,_,k,ob,h,hk=>by
  simp only[lR]at h;split at h
  . rename_i i hi;split at h
    . rename_i a ha;split at h
      . rename_i x hx;split at h
        . rename_i y hy;cases h;have hk:(bif Nat.beq k j then some x else aT y k)=some ob:=hk;cases hb:Nat.beq k j with
          |true=>rw[hb]at hk;cases hk;have:=dV hb;subst this;exact⟨i,a,b,hi,ha,hx⟩
          |false=>rw[hb]at hk;exact qE hy hk
        . cases h
      . cases h
    . cases h
  . cases h
 |(j,none)::r,_,k,ob,h,hk=>by
  simp only[lR]at h;split at h
  . rename_i y hy;cases h;have hk:(bif Nat.beq k j then none else aT y k)=some ob:=hk;cases hb:Nat.beq k j with
    |true=>rw[hb]at hk;cases hk
    |false=>rw[hb]at hk;exact qE hy hk
  . cases h
theorem Bv:∀{l:List Nat} {p q i:Nat},gn l=true->l[p]?=some i->l[q]?=some i->p=q
 |[],p,_,_,_,h,_=>by simp at h
 |x::r,p,q,i,hn,hp,hq=>by
  simp only[gn,fZ,Ht]at hn;have hx:∀{q:Nat},r[q]?=some x->False:=λh=>by
   have:=ju.2 (nR h);rw[this]at hn;cases hn.1
  cases p with
  |zero=>cases q with
   |zero=>rfl
   |succ q=>simp at hp hq;subst hp;exact(hx hq).elim
  |succ p=>cases q with
   |zero=>simp at hp hq;subst hq;exact(hx hp).elim
   |succ q=>simp at hp hq;rw[Bv hn.2 hp hq]
end
theorem cY.pq{X:Nat->Prop}{w0 w:World}{H0:Bool->Hp}{ν:Nu}{oF:OF}(hS:cY X w0 H0 ν oF w){ren:List Nat}{out out':List (Nat×Option Ob)}(h1:lR oF ren out=some out')(h2:gn ren=true):
 cY X w0 H0 (ez ν ren) (aT out') w/\Sn ν (HF X w0 H0 ν oF w) (HF X w0 H0 (ez ν ren) (aT out') w) oF ren:=by
 have ow:∀b,Ow (ez ν ren) (aT out') b->∃i ob,oF i=some ob/\gg ν i ob b/\i∈ren:=by
  rintro b ⟨k,ob,g1,g2⟩;obtain⟨i,a,b',q1,q2,q3⟩:=qE h1 g1;exact⟨i,a,q2,(Ac q1 (vB q3).1).1 g2,nR q1⟩
 have le:∀κ,Le (HF X w0 H0 ν oF w κ) (HF X w0 H0 (ez ν ren) (aT out') w κ):=by
  intro κ b o h;rcases tP h with⟨g1,g1',g2⟩|⟨g1,g2,g3⟩
  . rw[om g1 g1'];exact g2
  . refine lL g1 (λhw=>?_) g3;obtain⟨i,ob,q1,q2,_⟩:=ow b hw;exact g2 ⟨i,ob,q1,q2⟩
 have tf:Le (HF X w0 H0 (ez ν ren) (aT out') w true) (HF X w0 H0 (ez ν ren) (aT out') w false):=λb o h=>by
  rcases tP h with⟨g1,g1',g2⟩|⟨g1,g2,g3⟩
  . rw[om g1 g1'];exact hS.h0 b o g2
  . exact lL g1 g2 g3
 have sn:Sn ν (HF X w0 H0 ν oF w) (HF X w0 H0 (ez ν ren) (aT out') w) oF ren:=by
  refine⟨le,tf,?_,?_⟩
  . intro i α r κ xs b c n ho hb;obtain⟨b',c',n',k,q2,q3,e1,e0,cs,sp,rfl,e3,e4⟩:=hS.de i _ ho;rw[hb]at q2;cases q2;refine⟨e1,λhn=>?_⟩;subst hn;have hq:Rs r (HF X w0 H0 ν oF w κ) (fE none 0 0 0) xs:=rD q3 e3 e0;rcases hq with⟨_,h⟩|⟨_,_,_,hv,_⟩
    . exact h
    . cases hv
  rintro i α r κ xs a hp ho ⟨b,c,n,q1,rfl⟩;obtain⟨b',c',n',k,q2,q3,e1,e0,cs,sp,rfl,e3,e4⟩:=hS.de i _ ho;rw[q1]at q2;cases q2;cases b with
  |none=>exact rD q3 e3 e0
  |some b=>
   have hb:X b\/w0.heap.size<=b:=hS.fresh i _ b ho (.inl (eT q1));have hn:¬Ow (ez ν ren) (aT out') b:=by
    intro hw;obtain⟨j,ob,g1,g2,g3⟩:=ow b hw;have:=hS.gR i j _ ob b ho g1 (.inl (eT q1)) g2;subst this;exact Gq hp g3
   exact xJ (pO q3 λq hq=>lL hb hn (uQ q3 hq)) (e3.mono (le κ)) e0 rfl e1 e4
 refine⟨⟨hS.os,hS.tape,hS.output,hS.size,hS.keep,hS.h0,hS.nh,hS.pI,λk ob h=>?_,λk ob b h hb=>?_,λk k' o o' b h h' hb hb'=>?_,λk ob h=>?_⟩,sn⟩
 . obtain⟨i,a,b,q1,q2,q3⟩:=qE h1 h;obtain⟨b',c,n,kk,g1,g2,g3⟩:=hS.de i a q2;exact⟨b',c,n,kk,kG q1 g1,g2,OG sn q3 g3⟩
 . obtain⟨i,a,b',q1,q2,q3⟩:=qE h1 h;exact hS.fresh i a b q2 ((Ac q1 (vB q3).1).1 hb)
 . obtain⟨i,a,b1,q1,q2,q3⟩:=qE h1 h;obtain⟨i',a',b1',q1',q2',q3'⟩:=qE h1 h';have:=hS.gR i i' a a' b q2 q2' ((Ac q1 (vB q3).1).1 hb) ((Ac q1' (vB q3').1).1 hb');subst this;exact Bv h2 q1 q1'
 . obtain⟨i,a,b1,q1,q2,q3⟩:=qE h1 h;obtain⟨p1,p2,p3⟩:=hS.parts i a q2;have e:=Mm (ν:=ν) q1 (vB q3).1;exact⟨λt ht=>p1 t (by rw[<-e];exact ht),λb t hb ht=>p2 b t (by rw[<-uA q1];exact hb) (by rw[<-e];exact ht),(vB q3).2⟩
def oY:Nat->List Nat->Bool
 |0,_=>true
 |m+1,ren=>(match ren[m]?with
  |some i=>Nat.beq i m
  |none=>false)&&oY m ren
theorem Co:∀{m:Nat} {ren:List Nat} {k:Nat},oY m ren=true->k<m->ren[k]?=some k
 |0,_,k,_,h=>by omega
 |m+1,ren,k,h,hk=>by
  simp only[oY,fZ]at h;by_cases hm:k=m
  . subst hm;cases hr:ren[k]?with
    |none=>rw[hr]at h;cases h.1
    |some i=>rw[hr]at h;rw[dV h.1]
  . exact Co h.2 (by omega)
theorem St.pq{F:Fx}{L:SS}{e:Env}{w:World}(h:St F L e w)(ren:List Nat){de:List (Nat×Option Ob)}{bX:List (Nat×Option Sv)}(h1:lR (aT L.bI) ren de=some de)(h2:gn ren=true)(h3:oJ L ren bX=some bX)(h4:oY F.m ren=true):St F ⟨ren.length,de,bX⟩ e w:=by
 obtain⟨ν,g1,g2,g3,g4,g5⟩:=h;obtain⟨k1,k2⟩:=g4.pq h1 h2;refine⟨ez ν ren,λk hk=>?_,?_,λk hk=>?_,k1,I8 k2 g5 h3⟩
 . rw[qI,gr hk];rfl
 . rcases cH ren.length F.m with h|h
   . have:=Co h4 (k:=ren.length) h;rw[gr (bO _)]at this;cases this
   . exact h
 . rw[qI,Co h4 hk];exact g3 k hk
open Go Go.RowKit Go.X
variable [fq]
def yX(X:Nat->Prop)(w0:World)(H0:Bool->Hp)(ν0:Nu)(m:Nat)(out:List (Nat×Option Ob))(rs:List S1)(vs:List Value)(w:World):Prop:= ∃ν,(∀k,k<m->ν k=ν0 k)/\cY X w0 H0 ν (aT out) w/\ee ν (HF X w0 H0 ν (aT out) w) rs vs
def Cx(P:Program)(f:FuncId)(az:List S1)(ib:List Ob)(out:List (Nat×Option Ob))(rs:List S1):Prop:= Enters P f/\∀(X:Nat->Prop) (w:World) (H:Bool->Hp) (ν:Nu) (l:List Value),(∀k,ib.length<=k->ν k=none)->cY X w H ν (aT (eQ 0 ib)) w->ee ν (HF X w H ν (aT (eQ 0 ib)) w) az l-> Calls P f l.toArray w (λe w'=>∃vs,e=.returned (jC vs)/\yX X w H ν ib.length out rs vs w')
abbrev Cn(P:Program)(f:FuncId)(az:List S1)(ob:List Ob)(rs:List S1):Prop:=Cx P f az [] (eQ 0 ob) rs
def QR(P:Program)(rl:List ResultVar)(X:Nat->Prop)(w0:World)(H0:Bool->Hp)(ν0:Nu)(m:Nat)(out:List (Nat×Option Ob))(rs:List S1):Env->World->Prop:=λe w=>∃vs,tw P e w rl vs/\yX X w0 H0 ν0 m out rs vs w
def pJ:Nat->List S1->List (Nat×Option Sv)
 |_,[]=>[]
 |i,a::r=>(i,some (.s a))::pJ (i+1) r
theorem AT{ν:Nu}{H:Bool->Hp}{e:Env}:∀{az:List S1} {vs:List Value} (j:Nat),ee ν H az vs->(∀i v,vs[i]?=some v->e (j+i)=v)->dI ν H (aT (pJ j az)) e
 |[],_,j,_,_=>λt sv ht=>by cases ht
 |a::r,_,j,⟨v,vs,h1,h2,h3⟩,he=>λt sv ht=>by
  subst h1;have ht:(bif Nat.beq t j then some (Sv.s a)else aT (pJ (j+1) r) t)=some sv:=ht;cases hb:Nat.beq t j with
  |true=>
   rw[hb]at ht;cases ht;have:=dV hb;subst this;have:=he 0 v rfl;rw[qs]at this;rw[this];exact h2
  |false=>
   rw[hb]at ht;exact AT (j+1) h3 (λi v' hi=>by rw[show j+1+i=j+(i+1) by omega];exact he (i+1) v' (by simpa using hi)) t sv ht
theorem fn{P:Program}(tb:List (dU P)){f:FuncId}{fn:Func}{c:Code}{rl:List ResultVar}{n:Nat}{az rs:List S1}{ib:List Ob}{out:List (Nat×Option Ob)}(en:Enters P f)(hf:P.funcs[f]?=some fn)
 {m:Nat}(h:∀X w H ν,Gs tb ⟨n,QR P rl X w H ν m out rs,X,w,H,m,ν⟩ [.code c] ⟨m,eQ 0 ib,pJ 0 az⟩)(hm:ib.length=m:=by rfl)(hb:fn.body=some c:=by rfl)(hn:fn.ntmps=n:=by rfl)(hr:fn.results=rl.toArray:=by rfl)(hl:Nat.ble az.length n=true:=by rfl):Cx P f az ib out rs:=by
 subst hm;refine⟨en,λX w H ν l hν hS hl'=>?_⟩;refine KM hf hb hn hr (by rw[hl'.length];exact kR hl) ?_;have h0:St ⟨n,QR P rl X w H ν ib.length out rs,X,w,H,ib.length,ν⟩ ⟨ib.length,eQ 0 ib,pJ 0 az⟩ (kU l) w:=⟨ν,hν,bO _,λ_ _=>rfl,hS,AT 0 hl' (λi v hi=>by rw[fb];simp[kU,hi])⟩;refine((Gs.ok (h X w H ν)).ok _ _ h0).mono ?_;rintro e w' ⟨vs,h1,h2⟩;exact⟨vs,h1,vs,rfl,h2⟩
def sX{P:Program}(tb:List (dU P))(L:SS):List ResultVar->Option (List S1)
 |[]=>some []
 |.tmp t::r=>match aT L.bX t with
  |some (.s s)=>match sX tb L r with
   |some y=>some (s::y)
   |none=>none
  |_=>none
 |.cell a t::r=>match aT L.bX a with
  |some (.s (.lf (.ptr j 0)))=>match aT L.bI j with
   |some (.box l)=>match cP tb t with
    |some T=>match iU T.d with
     |true=>match Nat.beq l.length T.sz with
      |true=>match sX tb L r with
       |some y=>some (.agg l::y)
       |none=>none
      |false=>none
     |false=>match l[0]?with
      |some x=>match sX tb L r with
       |some y=>some (.lf x::y)
       |none=>none
      |none=>none
    |none=>none
   |_=>none
  |_=>none
section
variable {P:Program} {tb:List (dU P)} {F:Fx} {all r:List Oper} {k:List It} {L:SS} {n:Nat}
theorem BY{ν:Nu}{e:Env}{w:World}{H:Bool->Hp}(hO:∀i ob,aT L.bI i=some ob->∃b c n k,ν i=some (b,c,n)/\dN w b k/\ob.R ν H c n k)(hS:dI ν H (aT L.bX) e):∀{rl:List ResultVar} {cw:List S1},sX tb L rl=some cw->∃vs,tw P e w rl vs/\ee ν H cw vs
 |[],_,h=>by cases h;exact⟨[],trivial,rfl⟩
 |.tmp t::r,_,h=>by
  simp only[sX]at h;split at h
  . rename_i s hs;split at h
    . rename_i y hy;cases h;obtain⟨vs,h1,h2⟩:=BY hO hS hy;exact⟨e t::vs,⟨rfl,h1⟩,_,_,rfl,hS _ _ hs,h2⟩
    . cases h
  . cases h
 |.cell a t::r,_,h=>by
  simp only[sX]at h;split at h
  . rename_i j hs;split at h
    . rename_i l ho;split at h
      . rename_i T hT;obtain⟨b,vs,g1,hc,g4⟩:=HV hO (hS _ _ hs) ho;split at h
        . rename_i hg;split at h
          . rename_i hb;split at h
            . rename_i y hy;cases h;obtain⟨us,h1,h2⟩:=BY hO hS hy;exact⟨.agg vs.toArray::us,⟨⟨_,g1,Sc (gL hT) hg (gu hT) hc (by rw[g4.length];exact dV hb)⟩,h1⟩,_,_,rfl,⟨vs,rfl,g4⟩,h2⟩
            . cases h
          . cases h
        . rename_i hg;split at h
          . rename_i x hx;split at h
            . rename_i y hy;cases h;obtain⟨us,h1,h2⟩:=BY hO hS hy;obtain⟨v,q1,q2⟩:=g4.get hx;exact⟨v::us,⟨⟨_,g1,U3 (gL hT) hg hc q1⟩,h1⟩,_,_,rfl,q2,h2⟩
            . cases h
          . cases h
      . cases h
    . cases h
  . cases h
theorem rt{rl:List ResultVar}{cw rs:List S1}{out:List (Nat×Option Ob)}{X:Nat->Prop}{w0:World}{H0:Bool->Hp}{m:Nat}{ν0:Nu}(ren:List Nat)(h0:sX tb L rl=some cw:=by rfl)(h1:lR (aT L.bI) ren out=some out:=by rfl)(h2:gn ren=true:=by rfl)(h3:yI (aT L.bI) ren cw rs=some rs:=by rfl)(h4:oY m ren=true:=by rfl):
 uD tb ⟨n,QR P rl X w0 H0 ν0 m out rs,X,w0,H0,m,ν0⟩ L:=by
 constructor;rintro e w ⟨ν,g1,g2,g3,g4,g5⟩;obtain⟨vs,q1,q2⟩:=BY g4.de g5 h0;obtain⟨k1,k2⟩:=g4.pq h1 h2;refine⟨vs,q1,ez ν ren,λk hk=>?_,k1,Fi k2 h3 q2⟩;rw[qI,Co h4 hk];exact g3 k hk
theorem bj{π σ:Type}{inj:π->σ}{Lj:π->SS}{s:σ}(x:π)(ren:List Nat){de:List (Nat×Option Ob)}{bX:List (Nat×Option Sv)}(hx:inj x=s:=by rfl)(hI:Lj x=⟨ren.length,de,bX⟩:=by rfl)(h1:lR (aT L.bI) ren de=some de:=by rfl)(h2:gn ren=true:=by rfl)(h3:oJ L ren bX=some bX:=by rfl)(h4:oY F.m ren=true:=by rfl):
 vn tb F (λe w=>∃p,inj p=s/\St F (Lj p) e w) L:=⟨λ_ _ h=>⟨x,hx,by rw[hI];exact h.pq ren h1 h2 h3 h4⟩⟩
theorem bl{σ ρ:Type}{I:σ->SS}{x:σ}(ren:List Nat){de:List (Nat×Option Ob)}{bX:List (Nat×Option Sv)}(hI:I x=⟨ren.length,de,bX⟩:=by rfl)(h1:lR (aT L.bI) ren de=some de:=by rfl)(h2:gn ren=true:=by rfl)(h3:oJ L ren bX=some bX:=by rfl)(h4:oY F.m ren=true:=by rfl):
 vn tb F (λe w=>∃s',(aJ.next x:aJ σ ρ)=.next s'/\St F (I s') e w) L:=⟨λ_ _ h=>⟨x,rfl,by rw[hI];exact h.pq ren h1 h2 h3 h4⟩⟩
theorem sn{kk:List It}(L':SS)(ren:List Nat)(h:jM tb F kk L'){de:List (Nat×Option Ob)}{bX:List (Nat×Option Sv)}(hI:L'=⟨ren.length,de,bX⟩:=by rfl)(h1:lR (aT L.bI) ren de=some de:=by rfl)(h2:gn ren=true:=by rfl)(h3:oJ L ren bX=some bX:=by rfl)(h4:oY F.m ren=true:=by rfl):jM tb F kk L:=⟨λe w hs=>h.ok e w (by rw[hI];exact hs.pq ren h1 h2 h3 h4)⟩
theorem jn{π σ β:Type}{m:Option σ}{g:σ->Option β}{res:β}{c:Code}(inj:π->σ)(Lj:π->SS)(h:m.bind g=some res)
 (h1:∀s,m=some s->g s=some res->Gs tb F (.code c::.back (λe w=>∃p,inj p=s/\St F (Lj p) e w)::k) L)(h2:∀p,g (inj p)=some res->Gs tb F k (Lj p)):jM tb F (.code c::k) L:=by
 obtain⟨s,q1,q2⟩:=bind_some h;refine⟨λe w hs=>cI.join _ ((Gs.ok (h1 s q1 q2)).ok e w hs) ?_⟩;rintro e w ⟨p,rfl,hp⟩;exact(Gs.ok (h2 p q2)).ok e w hp
theorem bk{c:Code}{id:Nat}(h:Gs tb F (.code c::.dK id::k) L):jM tb F (.code (.block id c)::k) L:=⟨λe w hs=>cI.block ((Gs.ok h).ok e w hs)⟩
theorem lp{σ ρ:Type}{body:σ->Option (aJ σ ρ)}{N:Nat}{s0:σ}{r0:ρ}{c:Code}(I:σ->SS)(hl:bS body N s0=some r0)(ren:List Nat)
 (rd:∀s o,body s=some o->(∀r',o=.done r'->r'=r0)->Gs tb F (.code c::.back (λe w=>∃s',o=.next s'/\St F (I s') e w)::k) (I s))
 {de:List (Nat×Option Ob)}{bX:List (Nat×Option Sv)}(hI:I s0=⟨ren.length,de,bX⟩:=by rfl)(h1:lR (aT L.bI) ren de=some de:=by rfl)(h2:gn ren=true:=by rfl)(h3:oJ L ren bX=some bX:=by rfl)(h4:oY F.m ren=true:=by rfl):jM tb F (.code (.loop c)::k) L:=⟨λe w hs=>
 cI.bS hl (λs e w=>St F (I s) e w) (by show St _ (I s0) _ _;rw[hI];exact hs.pq ren h1 h2 h3 h4) λs o e w hs hb hd=>(Gs.ok (rd s o hb hd)).ok e w hs⟩
theorem dbt{b:Bool}:b=decide (b=true):=by cases b<;>rfl
theorem dnt{p:Prop}[Decidable p]:(!decide p)=decide (¬p):=by by_cases h:p<;>simp[h]
def SS.kn(L:SS)(c:Operand)(b:Bool):SS:=match c with
 |.tmp t=>L.set t (eM (.bool b))
 |_=>L
theorem St.kn{c:Operand}{b b':Bool}{e:Env}{w:World}(h:St F L e w)(hc:lv (bW L c)=some (.bool b))(hb:b=b'):St F (L.kn c b') e w:=by
 cases c with
 |tmp t=>
  have:aT L.bX t=some (.s (.lf (.v (.bool b)))):=by
   simp only[bW]at hc;unfold lv at hc;split at hc
   . rename_i hx;cases hc;exact hx
   . cases hc
  exact h.aA this (by rw[hb])
 |_=>exact h
theorem St.lv{c:Operand}{v:Value}{e:Env}{w:World}(h:St F L e w)(hc:lv (bW L c)=some v):ev e c=v:=by
 obtain⟨ν,_,_,_,_,h4⟩:=h;exact(eY h4 hc).1
theorem cd{β:Type}{p:Prop}[Decidable p]{A B:Option β}{res:β}{c:Operand}{x y:Code}{b:Bool}(h:(if p then A else B)=some res)(ht:p->A=some res->Gs tb F (.code x::k) (L.kn c true))(hf:¬p->B=some res->Gs tb F (.code y::k) (L.kn c false))
 (hc:lv (bW L c)=some (.bool b):=by rfl)(hb:b=decide p:=by first|rfl|exact dbt|exact dnt|simp):jM tb F (.code (.cond c x y)::k) L:=by
 subst hb;refine⟨λe w hs=>?_⟩;refine cI.SJ p (hs.lv hc) (λhp=>?_) (λhp=>?_)
 . exact(Gs.ok (ht hp (L8 hp h))).ok e w (hs.kn hc (by simp[hp]))
 . exact(Gs.ok (hf hp (Ki hp h))).ok e w (hs.kn hc (by simp[hp]))
theorem cf{c:Operand}{x y:Code}{b:Bool}(hb:b=false)(ht:Gs tb F (.code y::k) (L.kn c false))(hc:lv (bW L c)=some (.bool b):=by rfl):jM tb F (.code (.cond c x y)::k) L:=
 ⟨λe w hs=>cI.JP (hs.lv hc) hb ((Gs.ok ht).ok e w (hs.kn hc hb))⟩
theorem rg{i:Nat}{ops:List Oper}(h:Gr tb F ops ops k L)(hd:mu F.n ops=true:=by rfl):jM tb F (.code (.region i ops.toArray false)::k) L:=⟨λe w hs=>cI.region hd ((Gr.ok h).ok e w hs)⟩
theorem dk{n0:Nat}{acc:List Er}(h:Gs tb F k L)(hc:Dm n0 L.nx all acc.reverse=true:=by kernel_rfl):DkN tb F n0 all k acc L:=⟨O1▸hc,h⟩
theorem gd{β:Type}{p:Prop}[Decidable p]{A B:Option β}{res:β}{b:Bool}{K:Bool->Prop}(h:(if p then A else B)=some res)(ht:p->A=some res->K true)(hf:¬p->B=some res->K false)(hb:b=decide p:=by first|rfl|exact dbt|exact dnt|simp):BC b K:=by
 subst hb;by_cases hp:p
 . rw[show decide p=true by simp[hp]];exact ht hp (L8 hp h)
 . rw[show decide p=false by simp[hp]];exact hf hp (Ki hp h)
end
open Go Go.RowKit Go.X
variable [fq]
def oQ(L:SS):List Operand->Option (List S1)
 |[]=>some []
 |x::r=>match bW L x with
  |some (.s s)=>match oQ L r with
   |some y=>some (s::y)
   |none=>none
  |_=>none
theorem A9{ν:Nu}{H:Bool->Hp}{L:SS}{e:Env}(hs:dI ν H (aT L.bX) e):∀{xs:List Operand} {ss:List S1},oQ L xs=some ss->ee ν H ss (xs.map (ev e))
 |[],_,h=>by cases h;rfl
 |x::r,_,h=>by
  simp only[oQ]at h;split at h
  . rename_i s hx;split at h
    . rename_i y hy;cases h;exact⟨_,_,rfl,du hs hx,A9 hs hy⟩
    . cases h
  . cases h
def rb:Option Bool->Bool->Bool->Bool
 |some true,false,_=>false
 |_,false,true=>false
 |_,_,_=>true
def oM(md:Option Bool)(bI:OF)(is:List Nat):Lf->Lf->Option Lf
 |.v (.slice none 0 0),.ro r κ _=>some (.ro r κ [])
 |.v x,_=>some (.v x)
 |.ro r κ xs,.ro _ κ' _=>match rb md κ κ' with
  |true=>some (.ro r κ' xs)
  |false=>none
 |.cp r κ xs,.ro _ κ' _=>match rb md κ κ' with
  |true=>some (.ro r κ' xs)
  |false=>none
 |.own i,.ro _ false _=>match md with
  |none=>match iV is i with
   |none=>match bI i with
    |some (.row r _ xs)=>some (.ro r false xs)
    |_=>none
   |some _=>none
  |some _=>none
 |.own i,.own _=>match iV is i with
  |some j=>some (.own j)
  |none=>none
 |.own i,.ap _ r κ' xs=>match iV is i with
  |some j=>match bI i with
   |some (.row r κ xs)=>match rb md κ κ' with
    |true=>some (.ap j r κ' xs)
    |false=>none
   |_=>none
  |none=>none
 |.ap i r κ xs,.ap _ _ κ' _=>match iV is i with
  |some j=>match rb md κ κ' with
   |true=>some (.ap j r κ' xs)
   |false=>none
  |none=>none
 |.ptr i o,_=>match iV is i with
  |some j=>some (.ptr j o)
  |none=>none
 |.mp i,_=>match iV is i with
  |some j=>some (.mp j)
  |none=>none
 |.sg i sz lo hi,_=>match iV is i with
  |some j=>some (.sg j sz lo hi)
  |none=>none
 |.pd q,_=>match md with
  |some true=>none
  |_=>some (.pd q)
 |_,_=>none
def nL(md:Option Bool)(bI:OF)(is:List Nat):List Lf->List Lf->Option (List Lf)
 |[],[]=>some []
 |a::r,b::s=>match oM md bI is a b with
  |some x=>match nL md bI is r s with
   |some y=>some (x::y)
   |none=>none
  |none=>none
 |_,_=>none
def kH(md:Option Bool)(bI:OF)(is:List Nat):List S1->List S1->Option (List S1)
 |[],[]=>some []
 |.lf a::r,.lf b::s=>match oM md bI is a b with
  |some x=>match kH md bI is r s with
   |some y=>some (.lf x::y)
   |none=>none
  |none=>none
 |.agg a::r,.agg b::s=>match nL md bI is a b with
  |some x=>match kH md bI is r s with
   |some y=>some (.agg x::y)
   |none=>none
  |none=>none
 |_,_=>none
def th(md:Option Bool)(bI:OF)(is:List Nat):Ob->Ob->Option Ob
 |.row r κ xs,.row _ κ' _=>match rb md κ κ' with
  |true=>some (.row r κ' xs)
  |false=>none
 |.row r κ xs,.aO _ κ' _=>match rb md κ κ' with
  |true=>some (.aO r κ' xs)
  |false=>none
 |.aO r κ xs,.aO _ κ' _=>match rb md κ κ' with
  |true=>some (.aO r κ' xs)
  |false=>none
 |.box a,.box b=>match nL md bI is a b with
  |some x=>some (.box x)
  |none=>none
 |.map dk kf vf m,.map _ _ _ _=>some (.map dk kf vf m)
 |_,_=>none
def jw(md:Option Bool)(bI:OF)(is:List Nat):List Nat->List Ob->Option (List Ob)
 |[],[]=>some []
 |i::r,b::s=>match bI i with
  |some a=>match th md bI is a b with
   |some x=>match jw md bI is r s with
    |some y=>some (x::y)
    |none=>none
   |none=>none
  |none=>none
 |_,_=>none
def Xc(ν:Nu)(is:List Nat)(b:Nat):Prop:=∃i∈is,dK ν i=some b
open Classical in
noncomputable def Hc(md:Option Bool)(H:Bool->Hp)(X:Nat->Prop)(w:World):Bool->Hp
 |true=>H true
 |false=>match md with
  |some κ=>H κ
  |none=>λb=>if X b then none else w.heap[b]?
theorem FG{H:Bool->Hp}{X:Nat->Prop}{w:World}{b:Nat}{o:Obj}:Hc none H X w false b=some o↔¬X b/\w.heap[b]?=some o:=by
 unfold Hc;dsimp only;split
 . rename_i h;exact⟨λh'=>by(cases h'),λh'=>bV h h'.1⟩
 . rename_i h;exact⟨λh'=>⟨h,h'⟩,λh'=>h'.2⟩
section
variable {md:Option Bool} {X:Nat->Prop} {w0 w:World} {H0:Bool->Hp} {ν:Nu} {oF:OF} {is:List Nat}
theorem Ae(hI:∀i∈is,∃ob,oF i=some ob){b:Nat}(h:Xc ν is b):Ow ν oF b:=by
 obtain⟨i,h1,h2⟩:=h;obtain⟨ob,h3⟩:=hI i h1;exact⟨i,ob,h3,.inl h2⟩
theorem Eu(hS:cY X w0 H0 ν oF w)(hI:∀i∈is,∃ob,oF i=some ob){κ:Bool}:Le (HF X w0 H0 ν oF w κ) (Hc none (HF X w0 H0 ν oF w) (Xc ν is) w false):=λb o h=>by
 obtain⟨h1,h2⟩:=hS.rd h;exact FG.2 ⟨λhx=>h2 (Ae hI hx),h1⟩
theorem qk(hS:cY X w0 H0 ν oF w)(hI:∀i∈is,∃ob,oF i=some ob){κ κ':Bool}(h:rb md κ κ'=true):Le (HF X w0 H0 ν oF w κ) (Hc md (HF X w0 H0 ν oF w) (Xc ν is) w κ'):=by
 cases κ' with
 |true=>cases κ with
  |true=>exact Le.refl _
  |false=>cases md with
   |none=>cases h
   |some κ=>cases κ<;>cases h
 |false=>cases md with
  |none=>exact Eu hS hI
  |some κ2=>cases κ2 with
   |true=>cases κ with
    |true=>exact Le.refl _
    |false=>cases h
   |false=>exact hS.lef κ
theorem J2(hS:cY X w0 H0 ν oF w)(hI:∀i∈is,∃ob,oF i=some ob):Le (Hc md (HF X w0 H0 ν oF w) (Xc ν is) w true) (Hc md (HF X w0 H0 ν oF w) (Xc ν is) w false):=by
 cases md with
 |none=>exact Eu hS hI
 |some κ=>cases κ with
  |true=>exact Le.refl _
  |false=>exact hS.tf
theorem Hc_w(hS:cY X w0 H0 ν oF w)(hI:∀i∈is,∃ob,oF i=some ob){b:Nat}{o:Obj}(h:Hc md (HF X w0 H0 ν oF w) (Xc ν is) w false b=some o):b<w.heap.size/\w.heap[b]?=some o/\¬Xc ν is b:=by
 cases md with
 |none=>
  obtain⟨h1,h2⟩:=FG.1 h;exact⟨kK h2,h2,h1⟩
 |some κ=>
  obtain⟨h1,h2⟩:=hS.rd (show HF X w0 H0 ν oF w κ b=some o from h);exact⟨kK h1,h1,λhx=>h2 (Ae hI hx)⟩
variable {νc:Nu} {cF:OF}
theorem re(hS:cY X w0 H0 ν oF w)(hI:∀i∈is,∃ob,oF i=some ob)(κ:Bool):Le (Hc md (HF X w0 H0 ν oF w) (Xc ν is) w κ) (HF (Xc ν is) w (Hc md (HF X w0 H0 ν oF w) (Xc ν is) w) νc cF w κ):=λb o h=>by
 have hf:Hc md (HF X w0 H0 ν oF w) (Xc ν is) w false b=some o:=by
  cases κ with
  |true=>exact J2 hS hI b o h
  |false=>exact h
 obtain⟨h1,h2,h3⟩:=Hc_w hS hI hf;rw[om h1 h3];exact h
theorem MY(hS:cY X w0 H0 ν oF w)(hI:∀i∈is,∃ob,oF i=some ob)(he:∀κ,Le (Hc md (HF X w0 H0 ν oF w) (Xc ν is) w κ) ((λκ=>HF (Xc ν is) w (Hc md (HF X w0 H0 ν oF w) (Xc ν is) w) νc cF w κ) κ)){a b l:Lf}{v:Value}(h:oM md oF is a b=some l)(hr:a.R ν (HF X w0 H0 ν oF w) v):
 l.R (ez ν is) (HF (Xc ν is) w (Hc md (HF X w0 H0 ν oF w) (Xc ν is) w) νc cF w) v:=by
 unfold oM at h;split at h
 . cases h;obtain⟨h1,_⟩:=hr;rw[h1];exact Rs.nil
 . cases h;exact hr
 . split at h
   . rename_i hk;cases h;exact Rs.mono hr (Le.trans (qk hS hI hk) (he _))
   . cases h
 . split at h
   . rename_i hk;cases h;exact Rs.mono hr.1 (Le.trans (qk hS hI hk) (he _))
   . cases h
 . split at h
   . split at h
     . rename_i hp;split at h
       . rename_i α r κ xs ho;cases h;obtain⟨b,c,n,q1,rfl⟩:=hr;obtain⟨b',c',n',kk,q2,q3,e1,e0,cs,sp,rfl,e3,e4⟩:=hS.de _ _ ho;rw[q1]at q2;cases q2;cases b with
         |none=>exact rD q3 e3 e0
         |some b=>
          have hx:¬Xc ν is b:=by
           rintro⟨j,g1,g2⟩;obtain⟨oj,g3⟩:=hI j g1;have:=hS.gR _ j _ oj b ho g3 (.inl (eT q1)) (.inl g2);subst this;exact Gq hp g1
          exact xJ (pO q3 λq hq=>he false b q (FG.2 ⟨hx,hq⟩)) (e3.mono (Le.trans (Eu hS hI) (he false))) e0 rfl e1 e4
       . cases h
     . cases h
   . cases h
 . split at h
   . rename_i j hj;cases h;obtain⟨b,c,n,h1,h2⟩:=hr;exact⟨b,c,n,kG (me hj) h1,h2⟩
   . cases h
 . split at h
   . rename_i j hj;split at h
     . rename_i α r κ xs ho;split at h
       . cases h;obtain⟨b,c,n,q1,rfl⟩:=hr;obtain⟨b',c',n',kk,q2,q3,e1,e0,cs,sp,rfl,e3,e4⟩:=hS.de _ _ ho;rw[q1]at q2;cases q2;refine⟨b,c,n,kG (me hj) q1,.inl ⟨e1,λhb=>?_,rfl⟩⟩;subst hb;have hq:Rs r (HF X w0 H0 ν oF w κ) (fE none 0 0 0) xs:=rD q3 e3 e0;rcases hq with⟨_,h⟩|⟨_,_,_,hv,_⟩
         . exact h
         . cases hv
       . cases h
     . cases h
   . cases h
 . split at h
   . rename_i j hj;split at h
     . rename_i hk;cases h;obtain⟨b,c,n,h1,h2⟩:=hr;exact⟨b,c,n,kG (me hj) h1,h2.imp id λg=>⟨g.1,Rs.mono g.2.1 (Le.trans (qk hS hI hk) (he _)),g.2.2⟩⟩
     . cases h
   . cases h
 . split at h
   . rename_i j hj;cases h;obtain⟨b,c,h1,h2⟩:=hr;exact⟨b,c,kG (me hj) h1,h2⟩
   . cases h
 . split at h
   . rename_i j hj;cases h;obtain⟨b,c,h1,h2⟩:=hr;exact⟨b,c,kG (me hj) h1,h2⟩
   . cases h
 . split at h
   . rename_i j hj;cases h;obtain⟨b,c,m,k,cp,h1,h2⟩:=hr;exact⟨b,c,m,k,cp,kG (me hj) h1,h2⟩
   . cases h
 . split at h
   . cases h
   . rename_i hmd;cases h;refine Pd.mono _ _ _ _ (λκ=>?_) hr;refine Le.trans (qk (md:=md) hS hI (κ:=κ) (κ':=κ) ?_) (he κ);cases md with
     |none=>cases κ<;>rfl
     |some κ2=>cases κ2 with
      |true=>exact bV rfl hmd
      |false=>cases κ<;>rfl
 . cases h
theorem EI(hS:cY X w0 H0 ν oF w)(hI:∀i∈is,∃ob,oF i=some ob)(he:∀κ,Le (Hc md (HF X w0 H0 ν oF w) (Xc ν is) w κ) ((λκ=>HF (Xc ν is) w (Hc md (HF X w0 H0 ν oF w) (Xc ν is) w) νc cF w κ) κ)):∀{a b l:List Lf} {v:List Value},nL md oF is a b=some l->dd ν (HF X w0 H0 ν oF w) a v->
 dd (ez ν is) (HF (Xc ν is) w (Hc md (HF X w0 H0 ν oF w) (Xc ν is) w) νc cF w) l v
 |[],[],l,a,h,hr=>by cases h;exact hr
 |x::r,y::s,l,a,h,hr=>by
  simp only[nL]at h;split at h
  . rename_i u hu;split at h
    . rename_i z hz;cases h;obtain⟨a,az,h1,h2,h3⟩:=hr;exact⟨a,az,h1,MY hS hI he hu h2,EI hS hI he hz h3⟩
    . cases h
  . cases h
 |[],_::_,_,_,h,_=>by cases h
 |_::_,[],_,_,h,_=>by cases h
theorem y8(hS:cY X w0 H0 ν oF w)(hI:∀i∈is,∃ob,oF i=some ob)(he:∀κ,Le (Hc md (HF X w0 H0 ν oF w) (Xc ν is) w κ) ((λκ=>HF (Xc ν is) w (Hc md (HF X w0 H0 ν oF w) (Xc ν is) w) νc cF w κ) κ)):∀{a b l:List S1} {v:List Value},kH md oF is a b=some l->ee ν (HF X w0 H0 ν oF w) a v->
 ee (ez ν is) (HF (Xc ν is) w (Hc md (HF X w0 H0 ν oF w) (Xc ν is) w) νc cF w) l v
 |[],[],l,a,h,hr=>by cases h;exact hr
 |.lf x::r,.lf y::s,l,a,h,hr=>by
  simp only[kH]at h;split at h
  . rename_i u hu;split at h
    . rename_i z hz;cases h;obtain⟨a,az,h1,h2,h3⟩:=hr;exact⟨a,az,h1,MY (a:=x) hS hI he hu h2,y8 hS hI he hz h3⟩
    . cases h
  . cases h
 |.agg x::r,.agg y::s,l,a,h,hr=>by
  simp only[kH]at h;split at h
  . rename_i u hu;split at h
    . rename_i z hz;cases h;obtain⟨a,az,h1,⟨vs,h2,h4⟩,h3⟩:=hr;exact⟨a,az,h1,⟨vs,h2,EI hS hI he hu h4⟩,y8 hS hI he hz h3⟩
    . cases h
  . cases h
 |.lf _::_,.agg _::_,_,_,h,_=>by cases h
 |.agg _::_,.lf _::_,_,_,h,_=>by cases h
 |[],_::_,_,_,h,_=>by cases h
 |.lf _::_,[],_,_,h,_=>by cases h
 |.agg _::_,[],_,_,h,_=>by cases h
theorem wF:∀{l:List Nat} {ib ib':List Ob} {j k:Nat} {ob:Ob},jw md oF is l ib=some ib'->aT (eQ j ib') k=some ob->∃p i a b,k=j+p/\l[p]?=some i/\oF i=some a/\th md oF is a b=some ob
 |[],[],_,j,k,ob,h,hk=>by cases h;cases hk
 |i::r,b::s,_,j,k,ob,h,hk=>by
  simp only[jw]at h;split at h
  . rename_i a ha;split at h
    . rename_i x hx;split at h
      . rename_i y hy;cases h;have hk:(bif Nat.beq k j then some x else aT (eQ (j+1) y) k)=some ob:=hk;cases hb:Nat.beq k j with
        |true=>rw[hb]at hk;cases hk;exact⟨0,i,a,b,by have:=dV hb;omega,rfl,ha,hx⟩
        |false=>
         rw[hb]at hk;obtain⟨p,i',a',b',g1,g2,g3,g4⟩:=wF hy hk;exact⟨p+1,i',a',b',by omega,by simpa using g2,g3,g4⟩
      . cases h
    . cases h
  . cases h
 |[],_::_,_,_,_,_,h,_=>by cases h
 |_::_,[],_,_,_,_,h,_=>by cases h
theorem MD:∀{l:List Nat} {ib ib':List Ob},jw md oF is l ib=some ib'->ib'.length=l.length
 |[],[],_,h=>by cases h;rfl
 |i::r,b::s,_,h=>by
  simp only[jw]at h;split at h
  . split at h
    . split at h
      . rename_i y hy;cases h;simp[MD hy]
      . cases h
    . cases h
  . cases h
 |[],_::_,_,h=>by cases h
 |_::_,[],_,h=>by cases h
theorem sU:∀{l:List Nat} {ib ib':List Ob},jw md oF is l ib=some ib'->∀i∈l,∃ob,oF i=some ob
 |[],[],_,_,i,hi=>by cases hi
 |j::r,b::s,_,h,i,hi=>by
  simp only[jw]at h;split at h
  . rename_i a ha;split at h
    . split at h
      . rename_i y hy;rcases ej.1 hi with e|e
        . subst e;exact⟨a,ha⟩
        . exact sU hy i e
      . cases h
    . cases h
  . cases h
 |[],_::_,_,h,_,_=>by cases h
 |_::_,[],_,h,_,_=>by cases h
theorem Al{md:Option Bool}{oF:OF}{is:List Nat}{a b x:Ob}(h:th md oF is a b=some x):x.tid=none:=by
 unfold th at h;split at h
 . split at h
   . cases h;rfl
   . cases h
 . split at h
   . cases h;rfl
   . cases h
 . split at h
   . cases h;rfl
   . cases h
 . split at h
   . cases h;rfl
   . cases h
 . cases h;rfl
 . cases h
theorem cY.Ax(hS:cY X w0 H0 ν oF w)(hn:gn is=true){ib:List Ob}(h:jw md oF is is ib=some ib):cY (Xc ν is) w (Hc md (HF X w0 H0 ν oF w) (Xc ν is) w) (ez ν is) (aT (eQ 0 ib)) w:=by
 have hI:=sU h;refine⟨rfl,rfl,rfl,bO _,λ_ _ _=>rfl,J2 hS hI,λb o hb=>Hc_w hS hI hb,hS.tab,λk ob hk=>?_,λk ob b hk hb=>?_,λk k' o o' b hk hk' hb hb'=>?_,λk ob hk=>?_⟩
 . obtain⟨p,i,a,b,e1,e2,e3,e4⟩:=wF h hk;rw[fb]at e1;subst e1;obtain⟨b',c,n,kk,q1,q2,q3⟩:=hS.de i a e3;refine⟨b',c,n,kk,kG e2 q1,q2,?_⟩;unfold th at e4;split at e4
   . split at e4
     . rename_i hok;cases e4;obtain⟨r1,r0,cs,sp,r2,r3,r4⟩:=q3;exact⟨r1,r0,cs,sp,r2,r3.mono (Le.trans (qk hS hI hok) (re hS hI _)),r4⟩
     . cases e4
   . split at e4
     . rename_i hok;cases e4;obtain⟨r1,r0,cs,sp,r2,r3,r4⟩:=q3;exact⟨r0,.inl ⟨r1,cs,sp,r2,r3.mono (Le.trans (qk hS hI hok) (re hS hI _)),r4⟩⟩
     . cases e4
   . split at e4
     . rename_i hok;cases e4;exact⟨q3.1,q3.2.imp (λ⟨r1,cs,sp,r2,r3,r4⟩=>⟨r1,cs,sp,r2,r3.mono (Le.trans (qk hS hI hok) (re hS hI _)),r4⟩) id⟩
     . cases e4
   . split at e4
     . rename_i x hx;cases e4;obtain⟨vs,r1,r2⟩:=q3;exact⟨vs,r1,EI hS hI (re hS hI) hx r2⟩
     . cases e4
   . cases e4;exact q3
   . cases e4
 . obtain⟨p,i,a,b',e1,e2,e3,e4⟩:=wF h hk;rw[fb]at e1;subst e1;exact .inl ⟨i,nR e2,by rw[<-uA e2];exact(qG (Al e4)).1 hb⟩
 . obtain⟨p,i,a,b1,e1,e2,e3,e4⟩:=wF h hk;obtain⟨p',i',a',b1',e1',e2',e3',e4'⟩:=wF h hk';rw[fb]at e1 e1';subst e1;subst e1';have:=hS.gR i i' a a' b e3 e3' (.inl (by rw[<-uA e2];exact(qG (Al e4)).1 hb)) (.inl (by rw[<-uA e2'];exact(qG (Al e4')).1 hb'));subst this;exact Bv hn e2 e2'
 . obtain⟨p,i,a,b',e1,e2,e3,e4⟩:=wF h hk;have e:=Al e4;exact⟨λt ht=>bV ht (by rw[u5 e];simp),λb t _ ht=>bV ht (by rw[u5 e];simp),λj hj=>bV hj (by rw[e];simp)⟩
end
def rn(is:List Nat)(nx k:Nat):Nat:=match is[k]?with
 |some i=>i
 |none=>nx+(k-is.length)
def nr:Option Bool->Bool->Bool
 |_,true=>true
 |none,false=>false
 |some κ,false=>κ
def nG:Option Bool->Bool->Bool
 |none,κ=>κ
 |some _,_=>true
def tW(md:Option Bool)(is:List Nat)(nx:Nat):Lf->Lf
 |.v x=>.v x
 |.ro r κ xs=>.ro r (nr md κ) xs
 |.cp r κ xs=>.cp r (nr md κ) xs
 |.own i=>.own (rn is nx i)
 |.ptr i o=>.ptr (rn is nx i) o
 |.mp i=>.mp (rn is nx i)
 |.pd q=>.pd q
 |.sg i sz lo hi=>.sg (rn is nx i) sz lo hi
 |.ap i r κ xs=>.ap (rn is nx i) r (nr md κ) xs
def lj(md:Option Bool)(is:List Nat)(nx:Nat):S1->S1
 |.lf l=>.lf (tW md is nx l)
 |.agg l=>.agg (l.map (tW md is nx))
def tm(md:Option Bool)(is:List Nat)(nx:Nat):Ob->Ob
 |.row r κ xs=>.row r (nr md κ) xs
 |.box l=>.box (l.map (tW md is nx))
 |.map dk kf vf m=>.map dk kf vf m
 |.deep t D xs hs=>.deep t D xs hs
 |.hd h i i' r κ xs=>.hd h i i' r κ xs
 |.aO r κ xs=>.aO r (nr md κ) xs
def okI(n:Nat):Lf->Bool
 |.own i=>Nat.blt i n
 |.ptr i _=>Nat.blt i n
 |.mp i=>Nat.blt i n
 |_=>true
def okL(md:Option Bool)(n:Nat):Lf->Bool
 |.ro _ κ _=>nG md κ
 |.cp _ κ _=>nG md κ
 |.pd _=>false
 |.sg .. =>false
 |.ap i _ κ _=>Nat.blt i n&&nG md κ
 |l=>okI n l
def pK(md:Option Bool)(n:Nat):S1->Bool
 |.lf l=>okL md n l
 |.agg l=>l.all (okL md n)
def okO(md:Option Bool)(n:Nat):Ob->Bool
 |.row _ κ _=>nG md κ
 |.box l=>l.all (okL md n)
 |.map _ _ _ _=>true
 |.deep _ _ _ _=>false
 |.hd .. =>false
 |.aO _ κ _=>nG md κ
def oC(md:Option Bool)(n:Nat):List (Nat×Option Ob)->Bool
 |[]=>true
 |(k,some o)::r=>Nat.blt k n&&okO md n o&&oC md n r
 |(_,none)::_=>false
def fw(md:Option Bool)(is:List Nat)(nx:Nat):List (Nat×Option Ob)->List (Nat×Option Ob)
 |[]=>[]
 |(k,o)::r=>(rn is nx k,o.map (tm md is nx))::fw md is nx r
def iz:List Nat->List (Nat×Option Ob)
 |[]=>[]
 |i::r=>(i,none)::iz r
def pA:List S1->Sv
 |[s]=>.s s
 |l=>.fP l
def iX(ν ν':Nu)(m nx nn:Nat):Nu:=⟨λk=>bif Nat.ble nx k&&Nat.blt k (nx+nn)then ν' (m+(k-nx))else ν k,ν.tl,ν.tc⟩
theorem Iu{ν ν':Nu}{m nx nn k:Nat}:iX ν ν' m nx nn k=bif Nat.ble nx k&&Nat.blt k (nx+nn)then ν' (m+(k-nx))else ν k:=rfl
theorem IE{md:Option Bool}{n:Nat}{o:Ob}(h:okO md n o=true):o.tid=none:=by cases o<;>first|rfl|cases h
theorem Ih{md:Option Bool}{is:List Nat}{nx:Nat}{o:Ob}:(tm md is nx o).tid=o.tid:=by cases o<;>rfl
theorem CH{ν ν':Nu}{m nx nn:Nat}:ja nx nn ν (iX ν ν' m nx nn):=λk hk=>by
 rw[Iu];have:(Nat.ble nx k&&Nat.blt k (nx+nn))=false:=by
  cases h1:Nat.ble nx k with
  |false=>rfl
  |true=>
   have h1:=kR h1;cases h2:Nat.blt k (nx+nn)with
   |false=>rfl
   |true=>have h2:k+1<=nx+nn:=kR h2;omega
 rw[this];rfl
theorem QN{ν ν':Nu}{m nx nn j:Nat}(h:j<nn):iX ν ν' m nx nn (nx+j)=ν' (m+j):=by
 rw[Iu];have h1:Nat.ble nx (nx+j)=true:=NK (by omega);have h2:Nat.blt (nx+j) (nx+nn)=true:=by show Nat.ble (nx+j+1) (nx+nn)=true;exact NK (by omega)
 rw[h1,h2];simp
section
variable {md:Option Bool} {X:Nat->Prop} {w0 w w':World} {H0:Bool->Hp} {ν ν':Nu} {oF:OF} {is:List Nat} {nx nn:Nat}
theorem qa(hν:∀k,nx<=k->k<nx+nn->ν k=none)(hp:∀k,k<is.length->ν' k=ez ν is k){k:Nat}{x:Option Nat×Nat×Nat}(hk:k<is.length+nn)(h:ν' k=some x):iX ν ν' is.length nx nn (rn is nx k)=some x:=by
 unfold rn;rcases cH k is.length with h1|h1
 . rw[cy h1];rw[hp k h1]at h;rw[qI,cy h1]at h;have h:ν is[k]=some x:=h;exact CH.le hν _ _ h
 . rw[gr h1];show iX ν ν' is.length nx nn (nx+(k-is.length))=some x;rw[QN (by omega),show is.length+(k-is.length)=k by omega];exact h
variable {out:List (Nat×Option Ob)} {H H':Bool->Hp}
theorem Mf(hν:∀k,nx<=k->k<nx+nn->ν k=none)(hp:∀k,k<is.length->ν' k=ez ν is k)(hH:∀κ,nG md κ=true->Le (H κ) (H' (nr md κ))){l:Lf}{v:Value}(hk:okL md (is.length+nn) l=true)(h:l.R ν' H v):(tW md is nx l).R (iX ν ν' is.length nx nn) H' v:=by
 have lt:∀{i n:Nat},Nat.blt i n=true->i<n:=λh=>kR h;cases l with
 |v x=>exact h
 |ro r κ xs=>exact Rs.mono h (hH κ hk)
 |cp r κ xs=>exact⟨Rs.mono h.1 (hH κ hk),h.2⟩
 |own i=>obtain⟨b,c,n,h1,h2⟩:=h;exact⟨b,c,n,qa hν hp (lt hk) h1,h2⟩
 |ptr i o=>obtain⟨b,c,h1,h2⟩:=h;exact⟨b,c,qa hν hp (lt hk) h1,h2⟩
 |mp i=>obtain⟨b,c,h1,h2⟩:=h;exact⟨b,c,qa hν hp (lt hk) h1,h2⟩
 |pd q=>cases hk
 |sg i sz lo hi=>cases hk
 |ap i r κ xs=>
  have hk:(Nat.blt i (is.length+nn)&&nG md κ)=true:=hk;rw[fZ]at hk;obtain⟨b,c,n,h1,h2⟩:=h;exact⟨b,c,n,qa hν hp (lt hk.1) h1,h2.imp id λh=>⟨h.1,Rs.mono h.2.1 (hH κ hk.2),h.2.2⟩⟩
theorem GJ(hν:∀k,nx<=k->k<nx+nn->ν k=none)(hp:∀k,k<is.length->ν' k=ez ν is k)(hH:∀κ,nG md κ=true->Le (H κ) (H' (nr md κ))):∀{l:List Lf} {v:List Value},l.all (okL md (is.length+nn))=true->dd ν' H l v->dd (iX ν ν' is.length nx nn) H' (l.map (tW md is nx)) v
 |[],_,_,h=>h
 |x::r,_,hk,⟨a,az,h1,h2,h3⟩=>by
  simp only[C7,fZ]at hk;exact⟨a,az,h1,Mf hν hp hH hk.1 h2,GJ hν hp hH hk.2 h3⟩
theorem Fw(hν:∀k,nx<=k->k<nx+nn->ν k=none)(hp:∀k,k<is.length->ν' k=ez ν is k)(hH:∀κ,nG md κ=true->Le (H κ) (H' (nr md κ))):∀{l:List S1} {v:List Value},l.all (pK md (is.length+nn))=true->ee ν' H l v->ee (iX ν ν' is.length nx nn) H' (l.map (lj md is nx)) v
 |[],_,_,h=>h
 |.lf x::r,_,hk,⟨a,az,h1,h2,h3⟩=>by
  simp only[C7,fZ]at hk;exact⟨a,az,h1,Mf (l:=x) hν hp hH hk.1 h2,Fw hν hp hH hk.2 h3⟩
 |.agg x::r,_,hk,⟨a,az,h1,⟨vs,h2,h4⟩,h3⟩=>by
  simp only[C7,fZ]at hk;exact⟨a,az,h1,⟨vs,h2,GJ hν hp hH hk.1 h4⟩,Fw hν hp hH hk.2 h3⟩
theorem TM(hν:∀k,nx<=k->k<nx+nn->ν k=none)(hp:∀k,k<is.length->ν' k=ez ν is k)(hH:∀κ,nG md κ=true->Le (H κ) (H' (nr md κ))){c n:Nat}{k:df}{o:Ob}(hk:okO md (is.length+nn) o=true)(h:o.R ν' H c n k):(tm md is nx o).R (iX ν ν' is.length nx nn) H' c n k:=by
 cases o with
 |row r κ xs=>obtain⟨e1,e0,cs,sp,e2,e3,e4⟩:=h;exact⟨e1,e0,cs,sp,e2,e3.mono (hH κ hk),e4⟩
 |box l=>obtain⟨vs,e1,e2⟩:=h;exact⟨vs,e1,GJ hν hp hH hk e2⟩
 |map dk kf vf m=>exact h
 |deep t D xs hs=>cases hk
 |hd h i i' r κ xs=>cases hk
 |aO r κ xs=>
  obtain⟨h0,h⟩:=h;exact⟨h0,h.imp (λ⟨e,cs,sp,g1,g2,g3⟩=>⟨e,cs,sp,g1,g2.mono (hH κ hk),g3⟩) id⟩
theorem T2{ν:Nu}:∀{l:List S1} {vs:List Value},ee ν H l vs->(pA l).R ν H (jC vs)
 |[],_,h=>by rw[show _=[] from h];exact⟨[],rfl,rfl⟩
 |[_],_,⟨a,az,h1,h2,h3⟩=>by rw[h1,show az=[] from h3];exact h2
 |_::_::_,_,⟨a,az,h1,h2,a',az',h3,h4,h5⟩=>by rw[h1,h3];exact⟨a::a'::az',rfl,a,_,rfl,h2,a',_,rfl,h4,h5⟩
theorem Ln:∀{out:List (Nat×Option Ob)} {n k:Nat} {o:Option Ob},oC md n out=true->(k,o)∈out->∃ob,o=some ob/\k<n/\okO md n ob=true
 |[],_,_,_,_,h=>by cases h
 |(j,some x)::r,n,k,o,hk,h=>by
  simp only[oC,fZ]at hk;rcases ej.1 h with e|e
  . cases e;exact⟨x,rfl,kR hk.1.1,hk.1.2⟩
  . exact Ln hk.2 e
 |(j,none)::r,n,k,o,hk,h=>by cases hk
theorem MN{α:Type 1}:∀{l:List (Nat×Option α)} {k:Nat} {o:Option α},gn (l.map (·.1))=true->(k,o)∈l->aT l k=o
 |[],_,_,_,h=>by cases h
 |(j,x)::r,k,o,hn,h=>by
  simp only[kz,gn,fZ,Ht]at hn;show(bif Nat.beq k j then x else aT r k)=o;rcases ej.1 h with e|e
  . cases e;rw[rL];rfl
  . have:Nat.beq k j=false:=by
     cases hb:Nat.beq k j with
     |false=>rfl
     |true=>
      have:=dV hb;subst this;have:=ju.2 (dR.2 ⟨_,e,rfl⟩:k∈r.map (·.1));rw[this]at hn;cases hn.1
    rw[this];exact MN hn.2 e
def jr:List (Nat×Option Ob)->List (Nat×Ob)
 |[]=>[]
 |(k,some o)::r=>(k,o)::jr r
 |(_,none)::r=>jr r
theorem CP:∀{l:List (Nat×Option Ob)} {k:Nat} {o:Ob},(k,o)∈jr l↔(k,some o)∈l
 |[],_,_=>by simp[jr]
 |(j,some x)::r,k,o=>by simp[jr,CP (l:=r)]
 |(j,none)::r,k,o=>by simp[jr,CP (l:=r)]
theorem Gd:∀{l:List Nat} {k:Nat} {o:Option Ob},(k,o)∈iz l->k∈l/\o=none
 |[],_,_,h=>by cases h
 |i::r,k,o,h=>by
  rcases ej.1 h with e|e
  . cases e;exact⟨cX,rfl⟩
  . obtain⟨h1,h2⟩:=Gd e;exact⟨cO _ h1,h2⟩
theorem CN:∀{l:List Nat},(iz l).map (·.1)=l
 |[]=>rfl
 |i::r=>by show i::(iz r).map (·.1)=_;rw[CN]
theorem Ix{ν:Nu}{w:World}{H:Bool->Hp}:∀{l:List (Nat×Ob)},(∀x∈l,∃b c n k,ν x.1=some (b,c,n)/\dN w b k/\x.2.R ν H c n k)->(l.map (·.1)).Nodup->(∀x∈l,∀y∈l,∀b,dK ν x.1=some b->dK ν y.1=some b->x.1=y.1)->
 ∃C,gY w (Os ν l) C/\jm (Os ν l)/\ObsR ν H l C
 |[],_,_,_=>⟨[],trivial,trivial,rfl⟩
 |x::r,h,hn,hd=>by
  obtain⟨b,c,n,k,h1,h2,h3⟩:=h x cX;have hn':=NQ.1 (show(x.1::r.map (·.1)).Nodup from hn);obtain⟨C,g1,g2,g3⟩:=Ix (l:=r) (λy hy=>h y (cO _ hy)) hn'.2 (λy hy z hz=>hd y (cO _ hy) z (cO _ hz));refine⟨k::C,?_,?_,b,c,n,k,C,rfl,h1,h3,g3⟩
  . show dN w (dK ν x.1) k/\_;rw[eT h1];exact⟨h2,g1⟩
  . show jm (dK ν x.1::Os ν r);cases hb:dK ν x.1 with
    |none=>exact g2
    |some b'=>
     refine⟨λhm=>?_,g2⟩;obtain⟨y,q1,q2⟩:=Ms hm;have:=hd x cX y (cO _ q1) b' hb q2;exact hn'.1 (dR.2 ⟨y,q1,this.symm⟩)
end
section
variable {P:Program} {L:SS}
theorem O2{md:Option Bool}{is:List Nat}{o0 oF:OF}(ho:∀i ob,o0 i=some ob->oF i=some ob):∀{l:List Nat} {ib ib':List Ob},jw md o0 is l ib=some ib'->jw md oF is l ib=some ib':=by
 have upL:∀{a b l:Lf},oM md o0 is a b=some l->oM md oF is a b=some l:=by
  intro a b l h;unfold oM at h⊢;split at h<;>first|exact h|skip
  split at h<;>first|exact h|skip
  split at h<;>first|exact h|skip
  split at h
  . rename_i hi;rw[ho _ _ hi];exact h
  . cases h
  split at h<;>first|exact h|skip
  split at h
  . rename_i hi;rw[ho _ _ hi];exact h
  . cases h
 have upLs:∀{a b l:List Lf},nL md o0 is a b=some l->nL md oF is a b=some l:=by
  intro a
  induction a with
  |nil=>intro b l h;cases b<;>exact h
  |cons x r ih=>
   intro b l h;cases b with
   |nil=>exact h
   |cons y s=>
    simp only[nL]at h⊢;split at h
    . rename_i u hu;rw[upL hu];split at h
      . rename_i z hz;rw[ih hz];exact h
      . cases h
    . cases h
 intro l
 induction l with
 |nil=>intro ib ib' h;cases ib<;>exact h
 |cons i r ih=>
  intro ib ib' h;cases ib with
  |nil=>exact h
  |cons b s=>
   simp only[jw]at h⊢;split at h
   . rename_i a ha;rw[ho _ _ ha];dsimp only;split at h
     . rename_i x hx;have hx':th md oF is a b=some x:=by
        unfold th at hx⊢;split at hx<;>first|exact hx|skip
        split at hx
        . rename_i q hq;rw[upLs hq];exact hx
        . cases hx
       rw[hx'];dsimp only;split at h
       . rename_i y hy;rw[ih hy];exact h
       . cases h
     . cases h
   . cases h
theorem G8{md:Option Bool}{is:List Nat}{o0 oF:OF}(ho:∀i ob,o0 i=some ob->oF i=some ob):∀{a b l:List S1},kH md o0 is a b=some l->kH md oF is a b=some l:=by
 have upL:∀{a b l:Lf},oM md o0 is a b=some l->oM md oF is a b=some l:=by
  intro a b l h;unfold oM at h⊢;split at h<;>first|exact h|skip
  split at h<;>first|exact h|skip
  split at h<;>first|exact h|skip
  split at h
  . rename_i hi;rw[ho _ _ hi];exact h
  . cases h
  split at h<;>first|exact h|skip
  split at h
  . rename_i hi;rw[ho _ _ hi];exact h
  . cases h
 have upLs:∀{a b l:List Lf},nL md o0 is a b=some l->nL md oF is a b=some l:=by
  intro a
  induction a with
  |nil=>intro b l h;cases b<;>exact h
  |cons x r ih=>
   intro b l h;cases b with
   |nil=>exact h
   |cons y s=>
    simp only[nL]at h⊢;split at h
    . rename_i u hu;rw[upL hu];split at h
      . rename_i z hz;rw[ih hz];exact h
      . cases h
    . cases h
 intro a
 induction a with
 |nil=>intro b l h;cases b<;>exact h
 |cons x r ih=>
  intro b l h;cases b with
  |nil=>cases x<;>exact h
  |cons y s=>
   cases x<;>cases y<;>simp only[kH]at h⊢<;>first|(cases h;done)|skip
   . split at h
     . rename_i u hu;rw[upL hu];split at h
       . rename_i z hz;rw[ih hz];exact h
       . cases h
     . cases h
   . split at h
     . rename_i u hu;rw[upLs hu];split at h
       . rename_i z hz;rw[ih hz];exact h
       . cases h
     . cases h
theorem Cg(md:Option Bool)(is:List Nat)(nn nx:Nat){X:Nat->Prop}{w0 w w':World}{H0:Bool->Hp}{ν ν':Nu}{oF:OF}{e:Env}{rs:List S1}{vs:List Value}{out:List (Nat×Option Ob)}(hS:cY X w0 H0 ν oF w)(hI:∀i∈is,∃ob,oF i=some ob)(hn:gn is=true)
    (h1:oC md (is.length+nn) out=true)(h2:rs.all (pK md (is.length+nn))=true)(h3:gn (out.map (·.1))=true)(hνx:∀k,nx<=k->k<nx+nn->ν k=none)
    (hp:∀k,k<is.length->ν' k=ez ν is k)(hE:cY (Xc ν is) w (Hc md (HF X w0 H0 ν oF w) (Xc ν is) w) ν' (aT out) w')(hr:ee ν' (HF (Xc ν is) w (Hc md (HF X w0 H0 ν oF w) (Xc ν is) w) ν' (aT out) w') rs vs):
    ∃ν2,ja nx nn ν ν2/\cY X w0 H0 ν2 (bQ (fw md is nx out++iz is) oF) w'/\(∀κ,Le (HF X w0 H0 ν oF w κ) (HF X w0 H0 ν2 (bQ (fw md is nx out++iz is) oF) w' κ))/\dI ν2 (HF X w0 H0 ν2 (bQ (fw md is nx out++iz is) oF) w') (aT []) e/\svR ν2 (HF X w0 H0 ν2 (bQ (fw md is nx out++iz is) oF) w') (some (pA (rs.map (lj md is nx)))) (jC vs):=by
  refine⟨iX ν ν' is.length nx nn,CH,?_⟩;have keysO:∀{k:Nat} {o:Ob},(k,some o)∈out->k<is.length+nn/\okO md (is.length+nn) o=true:=λh=>by
    obtain⟨ob,g1,g2,g3⟩:=Ln h1 h;cases g1;exact⟨g2,g3⟩
  have getO:∀{k:Nat} {o:Ob},(k,some o)∈out->aT out k=some o:=λh=>MN h3 h;have rnI:∀{k k':Nat},k<is.length+nn->k'<is.length+nn->(∃x,ν' k=some x)->(∃x,ν' k'=some x)->rn is nx k=rn is nx k'->k=k':=by
    intro k k' hk hk' hx hx' he;have old:∀{k:Nat},k<is.length->(∃x,ν' k=some x)->∃x,ν (rn is nx k)=some x:=by
      intro k hk ⟨x,hx⟩;rw[hp k hk]at hx;rw[qI]at hx;unfold rn;rw[cy hk]at hx⊢;exact⟨x,hx⟩
    have new:∀{k:Nat},is.length<=k->k<is.length+nn->rn is nx k=nx+(k-is.length)/\ν (rn is nx k)=none:=by
      intro k hk hk2;have e:rn is nx k=nx+(k-is.length):=by unfold rn;rw[gr hk]
      exact⟨e,by rw[e];exact hνx _ (by omega) (by omega)⟩
    rcases cH k is.length with g|g<;>rcases cH k' is.length with g'|g'
    . have e1:rn is nx k=is[k]:=by unfold rn;rw[cy g]
      have e2:rn is nx k'=is[k']:=by unfold rn;rw[cy g']
      rw[e1,e2]at he;exact Bv hn (cy g) (by rw[cy g',he])
    . obtain⟨x,hx⟩:=old g hx;rw[he,(new g' hk').2]at hx;cases hx
    . obtain⟨x,hx⟩:=old g' hx';rw[<-he,(new g hk).2]at hx;cases hx
    . have a:=(new g hk).1;have b:=(new g' hk').1;omega
  have hasν:∀{k:Nat} {o:Ob},(k,some o)∈out->∃x,ν' k=some x:=λh=>by
    obtain⟨b,c,n,kk,q1,_⟩:=hE.de _ _ (getO h);exact⟨_,q1⟩
  have nw:∀x∈jr (fw md is nx out),∃k o,(k,some o)∈out/\x=(rn is nx k,tm md is nx o):=by
    have gen:∀(l:List (Nat×Option Ob)),∀x∈jr (fw md is nx l),∃k o,(k,some o)∈l/\x=(rn is nx k,tm md is nx o):=by
      intro l
      induction l with
      |nil=>intro x hx;cases hx
      |cons y r ih=>
        obtain⟨j,o⟩:=y;intro x hx;cases o with
        |none=>obtain⟨k,o,g1,g2⟩:=ih x hx;exact⟨k,o,cO _ g1,g2⟩
        |some o=>
          rcases ej.1 (show x∈(rn is nx j,tm md is nx o)::jr (fw md is nx r) from hx)with e|e
          . exact⟨j,o,cX,e⟩
          . obtain⟨k,o,g1,g2⟩:=ih x e;exact⟨k,o,cO _ g1,g2⟩
    exact gen out
  have hle0:∀(H':Bool->Hp),(∀κ,Le (HF X w0 H0 ν oF w κ) (H' κ))->(∀κ b o,(Xc ν is b\/w.heap.size<=b)->¬Ow ν' (aT out) b->kY (w'.heap[b]?)=some o->H' κ b=some o)->∀κ,nG md κ=true->Le (HF (Xc ν is) w (Hc md (HF X w0 H0 ν oF w) (Xc ν is) w) ν' (aT out) w' κ) (H' (nr md κ)):=by
    intro H' hH hn κ hk b o h;rcases tP h with⟨g1,g1',g2⟩|⟨g1,g2,g3⟩
    . cases κ with
      |true=>
        have e:nr md true=true:=by cases md<;>rfl
        rw[e];exact hH true b o g2
      |false=>cases md with
        |none=>cases hk
        |some κ0=>exact hH κ0 b o g2
    . exact hn _ b o g1 g2 g3
  have rel:∀(H':Bool->Hp),(∀κ,Le (HF X w0 H0 ν oF w κ) (H' κ))->(∀κ b o,(Xc ν is b\/w.heap.size<=b)->¬Ow ν' (aT out) b->kY (w'.heap[b]?)=some o->H' κ b=some o)->
      (∀x∈jr (fw md is nx out),∃b c n k,iX ν ν' is.length nx nn x.1=some (b,c,n)/\dN w' b k/\x.2.R (iX ν ν' is.length nx nn) H' c n k):=by
    intro H' hH hN x hx;obtain⟨k,o,g1,rfl⟩:=nw x hx;obtain⟨b,c,n,kk,q1,q2,q3⟩:=hE.de k o (getO g1);obtain⟨g2,g3⟩:=keysO g1;exact⟨b,c,n,kk,qa hνx hp g2 q1,q2,TM hνx hp (hle0 H' hH hN) g3 q3⟩
  have dist':∀x∈jr (fw md is nx out),∀y∈jr (fw md is nx out),∀b,dK (iX ν ν' is.length nx nn) x.1=some b->dK (iX ν ν' is.length nx nn) y.1=some b->x.1=y.1:=by
    intro x hx y hy b hxb hyb;obtain⟨k,o,g1,rfl⟩:=nw x hx;obtain⟨k',o',g1',rfl⟩:=nw y hy;obtain⟨⟨b1,c1⟩,q1⟩:=hasν g1;obtain⟨⟨b2,c2⟩,q2⟩:=hasν g1';have e1:=qa hνx hp (keysO g1).1 q1;have e2:=qa hνx hp (keysO g1').1 q2;dsimp only at hxb hyb;rw[eT e1]at hxb;rw[eT e2]at hyb;subst hxb;subst hyb;have:=hE.gR k k' o o' b (getO g1) (getO g1') (.inl (eT q1)) (.inl (eT q2));subst this;rfl
  have nodup':((jr (fw md is nx out)).map (·.1)).Nodup:=by
    have gen:∀(l:List (Nat×Option Ob)),(∀x∈l,x∈out)->gn (l.map (·.1))=true->((jr (fw md is nx l)).map (·.1)).Nodup/\∀k∈(jr (fw md is nx l)).map (·.1),∃j o,(j,some o)∈l/\k=rn is nx j:=by
      intro l
      induction l with
      |nil=>intro _ _;exact⟨List.nodup_nil,λk hk=>by cases hk⟩
      |cons y r ih=>
        obtain⟨j,o⟩:=y;intro hsub hnd;simp only[kz,gn,fZ,Ht]at hnd;obtain⟨i1,i2⟩:=ih (λx hx=>hsub x (cO _ hx)) hnd.2;cases o with
        |none=>exact⟨i1,λk hk=>by obtain⟨j',o',g1,g2⟩:=i2 k hk;exact⟨j',o',cO _ g1,g2⟩⟩
        |some o=>
          refine⟨NQ.2 ⟨λhm=>?_,i1⟩,λk hk=>?_⟩
          . obtain⟨j',o',g1,g2⟩:=i2 _ hm;have hj:=hsub _ cX;have hj':=hsub _ (cO _ g1);have:=rnI (keysO hj).1 (keysO hj').1 (hasν hj) (hasν hj') g2;subst this;have:=ju.2 (dR.2 ⟨_,g1,rfl⟩:j∈r.map (·.1));rw[this]at hnd;cases hnd.1
          . rcases ej.1 (show k∈rn is nx j::(jr (fw md is nx r)).map (·.1) from hk)with e|e
            . exact⟨j,o,cX,e⟩
            . obtain⟨j',o',g1,g2⟩:=i2 k e;exact⟨j',o',cO _ g1,g2⟩
    exact(gen out (λ_ h=>h) h3).1
  obtain⟨C',l1,l2,l3⟩:=Ix (H:=λ_ b=>w'.heap[b]?) (λx hx=>rel (λ_ b=>w'.heap[b]?) (λκ b o hb=>by
    obtain⟨g1,g2⟩:=hS.rd hb;have:¬Xc ν is b:=λhx=>g2 (Ae hI hx);have:=hE.keep b (kK g1) this;show w'.heap[b]?=some o;rw[this];exact g1) (λκ b o _ _ h=>mZ h) x hx) nodup' dist'
  have hO:∀b,some b∈is.map (dK ν)->Xc ν is b:=λb hb=>by
    obtain⟨i,g1,g2⟩:=dR.1 hb;exact⟨i,g1,g2⟩
  have hO':∀b,Xc ν is b->some b∈is.map (dK ν):=λb ⟨i,g1,g2⟩=>dR.2 ⟨i,g1,g2⟩;have hLoc:Go.X.Loc (is.map (dK ν)) [] w w' (Os (iX ν ν' is.length nx nn) (jr (fw md is nx out))) C':=by
    refine⟨hE.os,hE.tape,hE.output,hE.size,λk hk hx=>hE.keep k hk (λh=>hx (hO' k h)),l1,λb hb=>?_,l2,λ_ _ h=>(by cases h),λ_ h=>(by cases h)⟩;obtain⟨x,g1,g2⟩:=Ms hb;obtain⟨k,o,g3,rfl⟩:=nw x g1;obtain⟨⟨b1,c1⟩,q1⟩:=hasν g3;dsimp only at g2;rw[eT (qa hνx hp (keysO g3).1 q1)]at g2;subst g2;rcases hE.fresh k o b (getO g3) (.inl (eT q1))with g|g
    . exact .inl (hO' b g)
    . exact .inr g
  have owN:∀{b:Nat},(Xc ν is b\/w.heap.size<=b)->¬Ow ν' (aT out) b->¬Ow (iX ν ν' is.length nx nn) (bQ (fw md is nx out++iz is) oF) b:=by
    rintro b hb hno ⟨i,ob,g1,g2⟩;rcases j4 g1 with g3|⟨g3,g4⟩
    . rcases fe.1 g3 with g3|g3
      . obtain⟨k,o,q1,q2⟩:=nw (i,ob) (CP.2 g3);cases q2;obtain⟨⟨b1,c1⟩,q3⟩:=hasν q1;have g2:=(qG (ν:=iX ν ν' is.length nx nn) (by rw[Ih];exact IE (keysO q1).2)).1 g2;rw[eT (qa hνx hp (keysO q1).1 q3)]at g2;subst g2;exact hno ⟨k,o,getO q1,.inl (eT q3)⟩
      . have:=(Gd g3).2;cases this
    . obtain⟨b1,c,n,kk,q1,q2,_⟩:=hS.de i ob g3;have e:dK (iX ν ν' is.length nx nn) i=b1:=eT (CH.le hνx _ _ q1);have g2:gg ν i ob b:=by
        rcases g2 with g2|g2
        . exact .inl (by rw[eT q1,<-e];exact g2)
        . exact .inr (by unfold iv at g2⊢;rw[e]at g2;rw[eT q1];exact g2)
      have q2:b<w.heap.size:=hS.ltO g3 g2;rcases hb with hb|hb
      . obtain⟨j,q4,q5⟩:=hb;obtain⟨oj,q6⟩:=hI j q4;have:=hS.gR i j ob oj b g3 q6 g2 (.inl q5);subst this;have hm:cC i ((fw md is nx out++iz is).map (·.1))=true:=ju.2 (by
          rw[jP,CN];exact o8 _ q4)
        rw[hm]at g4;cases g4
      . omega
  have hN:∀(κ:Bool) b o,(Xc ν is b\/w.heap.size<=b)->¬Ow ν' (aT out) b->kY (w'.heap[b]?)=some o->HF X w0 H0 (iX ν ν' is.length nx nn) (bQ (fw md is nx out++iz is) oF) w' κ b=some o:=by
    intro κ b o hb hno hw;refine lL ?_ (owN hb hno) hw;rcases hb with⟨i,q1,q2⟩|hb
    . obtain⟨oi,q3⟩:=hI i q1;exact hS.fresh i oi b q3 (.inl q2)
    . exact .inr (bU hS.size hb)
  have hF':∀i ob,bQ (fw md is nx out++iz is) oF i=some ob->(oF i=some ob/\i∉is)\/(i,ob)∈jr (fw md is nx out):=by
    intro i ob h;rcases j4 h with h|⟨h,h'⟩
    . rcases fe.1 h with h|h
      . exact .inr (CP.2 h)
      . have:=(Gd h).2;cases this
    . refine .inl ⟨h,λhm=>?_⟩;have:cC i ((fw md is nx out++iz is).map (·.1))=true:=ju.2 (by
        rw[jP,CN];exact o8 _ hm)
      rw[this]at h';cases h'
  obtain⟨k1,k2⟩:=hS.go (T:=is) (O:=is.map (dK ν)) (oF':=bQ (fw md is nx out++iz is) oF) (new:=jr (fw md is nx out)) (ν':=iX ν ν' is.length nx nn)
    (λb hb=>by obtain⟨i,g1,g2⟩:=dR.1 hb;obtain⟨ob,g3⟩:=hI i g1;exact⟨i,g1,ob,g3,g2⟩) hLoc (CH.le hνx) rfl nodup' hF' (λhle=>rel _ hle hN) (λx hx=>by obtain⟨k,o,g1,rfl⟩:=nw x hx;show(tm md is nx o).tid=none;rw[Ih];exact IE (keysO g1).2) ⟨rfl,rfl⟩
  exact⟨k1,k2,nB,T2 (Fw hνx hp (hle0 _ k2 hN) h2 hr)⟩
theorem LC(md:Option Bool)(is:List Nat)(nn:Nat){f:FuncId}{args:List Operand}{ats:Array TypeId}{ty:TypeId}{l0 ls az rs:List S1}{ib:List Ob}{out:List (Nat×Option Ob)}(c:Cx P f az ib out rs)(ha:oQ L args=some l0)(hc:∀ν H v,ee ν H l0 v->ee ν H ls v)(hl:kH md (aT L.bI) is ls az=some az)(hb:jw md (aT L.bI) is is ib=some ib)(hn:gn is=true)
 (h1:oC md (is.length+nn) out=true)(h2:rs.all (pK md (is.length+nn))=true)(h3:gn (out.map (·.1))=true):
 LT P L (.call {callee:=.value (.func f),args:=args.toArray,argTypes:=ats}) ty ⟨nn,fw md is L.nx out++iz is,[]⟩ (some (pA (rs.map (lj md is L.nx)))):=by
 refine⟨λX w0 H0 ν oF e w ho hν hS hs=>?_⟩;have hb:=O2 ho hb;have hl:=G8 ho hl;have hI:=sU hb;have hlen:ib.length=is.length:=MD hb;have hin:=hS.Ax hn hb;have hargs:=y8 hS hI (re (md:=md) (νc:=ez ν is) (cF:=aT (eQ 0 ib)) hS hI) hl (hc _ _ _ (A9 hs ha));refine aG.LO c.1 rfl rfl (c.2 (Xc ν is) w _ (ez ν is) _ (λk hk=>by rw[qI,gr (by omega)];rfl) hin hargs) ?_;rintro en w' ⟨vs,rfl,ν',hp,hE,hr⟩;rw[hlen]at hp;exact⟨jC vs,rfl,Cg md is nn L.nx hS hI hn h1 h2 h3 hν hp hE hr⟩
theorem Ib(md:Option Bool)(is:List Nat)(nn:Nat){f:FuncId}{args:List Operand}{ats:Array TypeId}{ty:TypeId}{ls az rs:List S1}{ib:List Ob}{out:List (Nat×Option Ob)}(c:Cx P f az ib out rs)(ha:oQ L args=some ls)(hl:kH md (aT L.bI) is ls az=some az)(hb:jw md (aT L.bI) is is ib=some ib)(hn:gn is=true)
 (h1:oC md (is.length+nn) out=true)(h2:rs.all (pK md (is.length+nn))=true)(h3:gn (out.map (·.1))=true):
 LT P L (.call {callee:=.value (.func f),args:=args.toArray,argTypes:=ats}) ty ⟨nn,fw md is L.nx out++iz is,[]⟩ (some (pA (rs.map (lj md is L.nx)))):=LC md is nn c ha (λ_ _ _ h=>h) hl hb hn h1 h2 h3
end
open Go Go.RowKit Go.X
variable [fq]
class aM {α:Type} (r:bZ α)where
 cl:Bool->α->List Lf
 op:∀{ν:Nu} {H:Bool->Hp} {κ:Bool} {vs:List Value} {x:α},r.R (H κ) vs x->dd ν H (cl κ x) vs
 co:∀{ν:Nu} {H:Bool->Hp} {κ:Bool} {vs:List Value} {x:α},dd ν H (cl κ x) vs->r.R (H κ) vs x
instance {k:IntKind}:aM (aF k):=⟨λ_ x=>[.v (.int k x)],λh=>⟨_,[],h,⟨rfl,rfl⟩,rfl⟩,λ⟨_,_,h1,h2,h3⟩=>by rw[h1,h2.1,show _=[] from h3];rfl⟩
instance:aM CI:=⟨λ_ x=>[.v (.bool x)],λh=>⟨_,[],h,⟨rfl,rfl⟩,rfl⟩,λ⟨_,_,h1,h2,h3⟩=>by rw[h1,h2.1,show _=[] from h3];rfl⟩
instance:aM gX:=⟨λ_ x=>[.v (.string (s8 x))],λh=>⟨_,[],h,⟨rfl,rfl⟩,rfl⟩,λ⟨_,_,h1,h2,h3⟩=>by rw[h1,h2.1,show _=[] from h3];rfl⟩
instance {α:Type}{r:bZ α}:aM (bN r):=⟨λκ x=>[.ro r κ x],λ⟨v,h1,h2⟩=>⟨v,[],h1,h2,rfl⟩,λ⟨v,_,h1,h2,h3⟩=>⟨v,by rw[h1,show _=[] from h3],h2⟩⟩
abbrev sI(k:IntKind)(x:Int):S1:=.lf (.v (.int k x))
abbrev sB(x:Bool):S1:=.lf (.v (.bool x))
abbrev sT(x:List UInt8):S1:=.lf (.v (.string (s8 x)))
abbrev sR{α:Type}(r:bZ α)(κ:Bool)(xs:List α):S1:=.lf (.ro r κ xs)
abbrev sA{α:Type}(r:bZ α)[aM r](κ:Bool)(x:α):S1:=.agg (aM.cl r κ x)
abbrev sO(i:Nat):S1:=.lf (.own i)
abbrev lI(k:IntKind)(x:Int):Lf:=.v (.int k x)
abbrev lB(x:Bool):Lf:=.v (.bool x)
abbrev lN:Lf:=.v (.slice none 0 0)
abbrev vl(t:Nat)(l:Lf):Nat×Option Sv:=(t,some (.s (.lf l)))
abbrev vi(t:Nat)(x:Int):Nat×Option Sv:=(t,some (.s (sI .i64 x)))
abbrev vk(t:Nat)(k:IntKind)(x:Int):Nat×Option Sv:=(t,some (.s (sI k x)))
abbrev vb(t:Nat)(x:Bool):Nat×Option Sv:=(t,some (.s (sB x)))
abbrev vt(t:Nat)(x:List UInt8):Nat×Option Sv:=(t,some (.s (sT x)))
abbrev vr(t:Nat){α:Type}(r:bZ α)(κ:Bool)(xs:List α):Nat×Option Sv:=(t,some (.s (sR r κ xs)))
abbrev vo(t i:Nat):Nat×Option Sv:=(t,some (.s (.lf (.own i))))
abbrev vp(t i:Nat):Nat×Option Sv:=(t,some (.s (.lf (.ptr i 0))))
section
variable {P:Program} {tb:List (dU P)} {L:SS} {o:Oper} {ef:Ef} {sv:Option Sv} {K:Ef->Option Sv->Prop}
theorem cA.of(h:LT P L o.op o.type ef sv)(nx:K ef sv):cA tb o L K:=⟨ef,sv,h,nx⟩
theorem iT{t s:Nat}{T:dU P}(h:cP tb t=some T)(hs:T.sz=s):TI P t s T.qV T.z:=by subst hs;exact gu h
theorem gD{t:Nat}{T:dU P}{d:TypeDesc}(h:cP tb t=some T)(hd:T.d=d):P.underlying t=some d:=by subst hd;exact gL h
structure Vw (L:SS)(ef:Ef):Prop where
 ok:∀(X:Nat->Prop) (w0:World) (H0:Bool->Hp) (ν:Nu) (oF:OF) (e:Env) (w:World),(∀i ob,aT L.bI i=some ob->oF i=some ob)->(∀k,L.nx<=k->k<L.nx+ef.n->ν k=none)->cY X w0 H0 ν oF w->dI ν (HF X w0 H0 ν oF w) (aT L.bX) e->
  ∃ν',ja L.nx ef.n ν ν'/\cY X w0 H0 ν' (bQ ef.up oF) w/\(∀κ,Le (HF X w0 H0 ν oF w κ) (HF X w0 H0 ν' (bQ ef.up oF) w κ))/\dI ν' (HF X w0 H0 ν' (bQ ef.up oF) w) (aT ef.sl) e
def Ef.comp(a b:Ef):Ef:=⟨a.n+b.n,b.up++a.up,b.sl++a.sl⟩
theorem pf{α:Type 1}:∀{l r:List (Nat×Option α)} {f:Nat->Option α},bQ (l++r) f=bQ l (bQ r f)
 |[],_,_=>rfl
 |(d,s)::l,r,f=>by funext t;show(bif _ then _ else bQ (l++r) f t)=(bif _ then _ else bQ l (bQ r f) t);rw[pf]
theorem Lw{α:Type 1}{l:List (Nat×Option α)}{f g:Nat->Option α}(h:∀i x,f i=some x->g i=some x):∀i x,bQ l f i=some x->bQ l g i=some x:=by
 intro i x hx;cases hm:cC i (l.map (·.1))with
 |true=>rw[<-hx];exact rq hm
 |false=>rw[ku hm]at hx⊢;exact h i x hx
theorem po{a:Ef}(v:Vw L a)(h:cA tb o (L.l5 a) λef sv=>K (a.comp ef) sv):cA tb o L K:=by
 obtain⟨ef,sv,hl,hk⟩:=h.ok;refine⟨a.comp ef,sv,⟨λX w0 H0 ν oF e w ho hn hS hs=>?_⟩,hk⟩;obtain⟨ν1,g1,g2,g3,g4⟩:=v.ok X w0 H0 ν oF e w ho (λk h1 h2=>hn k h1 (by show k<L.nx+(a.n+ef.n);omega)) hS hs;have hle:=g1.le (λk h1 h2=>hn k h1 (by show k<L.nx+(a.n+ef.n);omega));refine(hl.ok X w0 H0 ν1 (bQ a.up oF) e w (by rw[pF];exact Lw ho) (λk h1 h2=>?_) g2 (by rw[sQ];exact(hs.mono hle g3).ap g4)).mono ?_
 . have h1:L.nx+a.n<=k:=h1;have h2:k<L.nx+a.n+ef.n:=h2;rw[g1 k (.inr h1)];exact hn k (by omega) (by show k<L.nx+(a.n+ef.n);omega)
 . rintro v w' ⟨ν2,q1,q2,q3,q4,q5⟩;rw[<-pf]at q2 q3 q4 q5;have hle2:fk ν1 ν2:=q1.le (λk h1 h2=>by
    have h1:L.nx+a.n<=k:=h1;have h2:k<L.nx+a.n+ef.n:=h2;rw[g1 k (.inr h1)];exact hn k (by omega) (by show k<L.nx+(a.n+ef.n);omega))
   refine⟨ν2,λk hk=>?_,q2,λκ=>Le.trans (g3 κ) (q3 κ),?_,q5⟩
   . rw[q1 k (by have:k<L.nx\/L.nx+(a.n+ef.n)<=k:=hk;show k<L.nx+a.n\/L.nx+a.n+ef.n<=k;omega),g1 k (by have:k<L.nx\/L.nx+(a.n+ef.n)<=k:=hk;omega)]
   . have e1:aT (a.comp ef).sl=bQ ef.sl (aT a.sl):=by funext t;exact qK _ _ _
     rw[e1];exact(g4.mono hle2 q3).ap q4
theorem Vw.st{F:Fx}{a:Ef}(v:Vw L a){e:Env}{w:World}(h:St F L e w):St F (L.l5 a) e w:=by
 obtain⟨ν,h1,h2,h3,h4,h5⟩:=h;obtain⟨ν',g1,g2,g3,g4⟩:=v.ok F.X F.w0 F.H0 ν (aT L.bI) e w (λ_ _ h=>h) (λk hk _=>h1 k hk) h4 h5;refine⟨ν',λk hk=>?_,?_,λk hk=>?_,by rw[pF];exact g2,?_⟩
 . have hk:L.nx+a.n<=k:=hk;rw[g1 k (.inr hk)];exact h1 k (by omega)
 . show F.m<=L.nx+a.n;omega
 . rw[g1 k (.inl (by omega))];exact h3 k hk
 . rw[pF,sQ];exact(h5.mono (g1.le λk hk _=>h1 k hk) g3).ap g4
theorem ps{F:Fx}{a:Ef}{k:List It}(v:Vw L a)(nx:jM tb F k (L.l5 a)):jM tb F k L:=⟨λe w hs=>nx.ok e w (v.st hs)⟩
theorem pk{F:Fx}{a:Ef}{J:Env->World->Prop}(v:Vw L a)(nx:vn tb F J (L.l5 a)):vn tb F J L:=⟨λe w hs=>nx.ok e w (v.st hs)⟩
theorem pr{F:Fx}{a:Ef}(v:Vw L a)(nx:uD tb F (L.l5 a)):uD tb F L:=⟨λe w hs=>nx.ok e w (v.st hs)⟩
theorem Cz{w:World}:Go.X.Loc [] [] w w [none] [.cells []]:=(oc (w:=w)).RS.1
theorem nl{α:Type}(t:Nat)(rp:bZ α)(ht:aT L.bX t=some (.s (.lf (.v (.slice none 0 0)))):=by rfl)(hz:(rp.sz==0)=false:=by rfl):Vw L ⟨1,[(L.nx,some (.row rp true []))],[(t,some (.s (.lf (.own L.nx))))]⟩:=by
 refine⟨λX w0 H0 ν oF e w ho hn hS hs=>?_⟩;have hx:=hn L.nx (bO _) (by show L.nx<L.nx+1;omega);obtain⟨g1,g2⟩:=hS.new (ob:=.row rp true []) (c:=0) (n:=0) rfl hx Cz (λH' _=>⟨rfl,hz,[],[],rfl,rfl,by simp⟩);refine⟨_,pv,g1,g2,λt' sv h=>?_⟩;have h:(bif Nat.beq t' t then some (Sv.s (.lf (.own L.nx)))else none)=some sv:=h;cases hb:Nat.beq t' t with
 |false=>rw[hb]at h;cases h
 |true=>
  rw[hb]at h;cases h;have:=dV hb;subst this;exact⟨none,0,0,mg,(hs _ _ ht).1⟩
theorem nv{α:Type}(t off:Nat)(rp:bZ α){l:List Lf}(ht:aT L.bX t=some (.s (.agg l)):=by rfl)(hl:l[off]?=some (.v (.slice none 0 0)):=by rfl)(hz:(rp.sz==0)=false:=by rfl):Vw L ⟨1,[(L.nx,some (.row rp true []))],[(t,some (.s (.agg (l.set off (.own L.nx)))))]⟩:=by
 refine⟨λX w0 H0 ν oF e w ho hn hS hs=>?_⟩;have hx:=hn L.nx (bO _) (by show L.nx<L.nx+1;omega);obtain⟨g1,g2⟩:=hS.new (ob:=.row rp true []) (c:=0) (n:=0) rfl hx Cz (λH' _=>⟨rfl,hz,[],[],rfl,rfl,by simp⟩);refine⟨_,pv,g1,g2,λt' sv h=>?_⟩;have h:(bif Nat.beq t' t then some (Sv.s (.agg (l.set off (.own L.nx))))else none)=some sv:=h;cases hb:Nat.beq t' t with
 |false=>rw[hb]at h;cases h
 |true=>
  rw[hb]at h;cases h;have:=dV hb;subst this;obtain⟨vs,q1,q2⟩:=hs _ _ ht;obtain⟨y,q3,q4⟩:=q2.get hl;have:=(q2.mono (xv hx) g2).set (i:=off) (x:=.own L.nx) (y:=y) ⟨none,0,0,mg,q4.1⟩;refine⟨vs,q1,?_⟩;have e:vs.set off y=vs:=by
   apply qn;intro q;rw[rM];split
   . rename_i hq;subst hq;obtain⟨hlt,hv⟩:=ep.1 q3;rw[bD hlt,q3]
   . rfl
  rw[e]at this;exact this
theorem vM{α:Type}{vs:List α}{off:Nat}{y:α}(h:vs[off]?=some y):vs.set off y=vs:=by
 apply qn;intro q;rw[rM];split
 . rename_i hq;subst hq;obtain⟨hlt,hv⟩:=ep.1 h;rw[bD hlt,h]
 . rfl
theorem cY.review{X:Nat->Prop}{w0 w:World}{H0:Bool->Hp}{ν:Nu}{oF:OF}(hS:cY X w0 H0 ν oF w){up:List (Nat×Option Ob)}(h:∀i o,(i,o)∈up->∃ob ob',o=some ob'/\oF i=some ob/\ob'.tid=ob.tid/\∀c n k,ob.R ν (HF X w0 H0 ν oF w) c n k->ob'.R ν (HF X w0 H0 ν oF w) c n k):
 cY X w0 H0 ν (bQ up oF) w/\HF X w0 H0 ν (bQ up oF) w=HF X w0 H0 ν oF w:=by
 have ow:∀b,Ow ν (bQ up oF) b↔Ow ν oF b:=by
  intro b;constructor
  . rintro⟨i,ob,g1,g2⟩;rcases j4 g1 with g|⟨g,_⟩
    . obtain⟨ob1,ob2,q1,q2,qt,_⟩:=h _ _ g;cases q1;exact⟨i,ob1,q2,by unfold gg iv at g2⊢;rw[<-qt];exact g2⟩
    . exact⟨i,ob,g,g2⟩
  . rintro⟨i,ob,g1,g2⟩;cases hm:cC i (up.map (·.1))with
    |false=>exact⟨i,ob,by rw[ku hm];exact g1,g2⟩
    |true=>
     cases ha:bQ up oF i with
     |some ob'=>
      refine⟨i,ob',ha,?_⟩;rcases j4 ha with g|⟨g,_⟩
      . obtain⟨ob1,ob2,q1,q2,qt,_⟩:=h _ _ g;cases q1;rw[g1]at q2;cases q2;unfold gg iv at g2⊢;rw[qt];exact g2
      . rw[g1]at g;cases g;exact g2
     |none=>
      exfalso;have key:∀{l:List (Nat×Option Ob)},(∀x∈l,x∈up)->cC i (l.map (·.1))=true->bQ l oF i≠none:=by
       intro l
       induction l with
       |nil=>intro _ h;cases h
       |cons y r ih=>
        obtain⟨d,s⟩:=y;intro hsub hm hn;have hn:(bif Nat.beq i d then s else bQ r oF i)=none:=hn;cases hb:Nat.beq i d with
        |true=>
         rw[hb]at hn;obtain⟨ob1,ob2,q1,_⟩:=h d s (hsub _ cX);rw[q1]at hn;cases hn
        |false=>
         rw[hb]at hn;simp only[kz,cC,hb,Bool.false_or]at hm;exact ih (λx hx=>hsub x (cO _ hx)) hm hn
      exact key (λ_ h=>h) hm ha
 have e:HF X w0 H0 ν (bQ up oF) w=HF X w0 H0 ν oF w:=by
  funext κ b;unfold HF;by_cases hb:Ow ν oF b
  . simp only[(ow b).2 hb,hb,if_true]
  . have:¬Ow ν (bQ up oF) b:=λh=>hb ((ow b).1 h);simp only[this,hb,if_false]
 have at':∀i ob,bQ up oF i=some ob->∃ob0,oF i=some ob0/\ob.tid=ob0.tid/\∀c n k,ob0.R ν (HF X w0 H0 ν oF w) c n k->ob.R ν (HF X w0 H0 ν oF w) c n k:=by
  intro i ob g;rcases j4 g with g|⟨g,_⟩
  . obtain⟨ob1,ob2,q1,q2,qt,q3⟩:=h _ _ g;cases q1;exact⟨ob1,q2,qt,q3⟩
  . exact⟨ob,g,rfl,λ_ _ _ h=>h⟩
 have owt:∀{i:Nat} {a b:Ob} {q:Nat},a.tid=b.tid->gg ν i a q->gg ν i b q:=λht h=>by unfold gg iv at h⊢;rw[<-ht];exact h
 refine⟨⟨hS.os,hS.tape,hS.output,hS.size,hS.keep,hS.h0,hS.nh,hS.pI,λi ob g=>?_,λi ob b g hb=>?_,λi j oi oj b g g' h1 h2=>?_,λi ob g=>?_⟩,e⟩
 . obtain⟨ob0,q1,_,q2⟩:=at' i ob g;obtain⟨b,c,n,k,k1,k2,k3⟩:=hS.de i ob0 q1;exact⟨b,c,n,k,k1,k2,by rw[e];exact q2 c n k k3⟩
 . obtain⟨ob0,q1,ht,_⟩:=at' i ob g;exact hS.fresh i ob0 b q1 (owt ht hb)
 . obtain⟨o0,q1,ht,_⟩:=at' i oi g;obtain⟨o1,q2,ht',_⟩:=at' j oj g';exact hS.gR i j o0 o1 b q1 q2 (owt ht h1) (owt ht' h2)
 . obtain⟨ob0,q1,ht,_⟩:=at' i ob g;obtain⟨p1,p2,p3⟩:=hS.parts i ob0 q1;have e:iv ν i ob=iv ν i ob0:=by unfold iv;rw[ht]
   exact⟨λt h=>p1 t (by rw[<-e];exact h),λb t hb h=>p2 b t hb (by rw[<-e];exact h),λj hj=>p3 j (by rw[<-ht];exact hj)⟩
theorem nb{α:Type}(i off:Nat)(rp:bZ α){l:List Lf}(hi:aT L.bI i=some (.box l):=by rfl)(hl:l[off]?=some (.v (.slice none 0 0)):=by rfl)(hne:Nat.beq i L.nx=false:=by rfl)(hz:(rp.sz==0)=false:=by rfl):Vw L ⟨1,[(i,some (.box (l.set off (.own L.nx)))),(L.nx,some (.row rp true []))],[]⟩:=by
 refine⟨λX w0 H0 ν oF e w ho hn hS hs=>?_⟩;have hx:=hn L.nx (bO _) (by show L.nx<L.nx+1;omega);obtain⟨g1,g2⟩:=hS.new (ob:=.row rp true []) (c:=0) (n:=0) rfl hx Cz (λH' _=>⟨rfl,hz,[],[],rfl,rfl,by simp⟩);have hoi:bQ [(L.nx,some (Ob.row rp true []))] oF i=some (.box l):=by
  show(bif Nat.beq i L.nx then _ else oF i)=_;rw[hne];exact ho _ _ hi
 obtain⟨k1,k2⟩:=g1.review (up:=[(i,some (.box (l.set off (.own L.nx))))]) (λj o hj=>by
  simp only[cG,nW]at hj;obtain⟨rfl,rfl⟩:=hj;refine⟨.box l,_,rfl,hoi,rfl,?_⟩;rintro c n k ⟨vs,q1,q2⟩;obtain⟨y,q3,q4⟩:=q2.get hl;have:=q2.set (i:=off) (x:=.own L.nx) (y:=y) ⟨none,0,0,mg,q4.1⟩;rw[vM q3]at this;exact⟨vs,q1,this⟩)
 refine⟨_,pv,k1,λκ=>?_,nB⟩;have:HF X w0 H0 (jt ν L.nx (none,0,0)) (bQ [(i,some (Ob.box (l.set off (.own L.nx)))),(L.nx,some (.row rp true []))] oF) w=HF X w0 H0 (jt ν L.nx (none,0,0)) (bQ [(L.nx,some (.row rp true []))] oF) w:=k2;rw[this];exact g2 κ
def ql(j:Nat)(y:Lf):Lf->Lf
 |.own i=>bif Nat.beq i j then y else .own i
 |l=>l
def fz1(j:Nat)(y:Lf):S1->S1
 |.lf l=>.lf (ql j y l)
 |.agg l=>.agg (l.map (ql j y))
def fzV(j:Nat)(y:Lf):Sv->Sv
 |.s x=>.s (fz1 j y x)
 |.fP l=>.fP (l.map (fz1 j y))
 |.pr κ c off=>.pr κ (c.map (ql j y)) off
 |.pw i r xs x ix off=>.pw i r xs x ix off
 |.fc f ps=>.fc f ps
 |.pa i r κ xs x ix off=>.pa i r κ xs x ix off
def sY(j:Nat)(y:Lf)(f:SF):List (Nat×Option Sv)->List (Nat×Option Sv)
 |[]=>[]
 |(t,_)::r=>match f t with
  |some s=>bif cC j (Gv (some s))then(t,some (fzV j y s))::sY j y f r else sY j y f r
  |none=>sY j y f r
def tB(j:Nat)(y:Lf)(f:OF):List (Nat×Option Ob)->List (Nat×Option Ob)
 |[]=>[]
 |(i,_)::r=>match f i with
  |some (.box l)=>bif cC j (uF l)then(i,some (.box (l.map (ql j y))))::tB j y f r else tB j y f r
  |_=>tB j y f r
section
variable {ν:Nu} {H:Bool->Hp} {j:Nat} {y:Lf}
theorem LH(h:∀a,(Lf.own j).R ν H a->y.R ν H a){l:Lf}{a:Value}(hr:l.R ν H a):(ql j y l).R ν H a:=by
 cases l with
 |own i=>
  show Lf.R ν H (bif Nat.beq i j then y else .own i) a;cases hb:Nat.beq i j with
  |true=>have:=dV hb;subst this;exact h a hr
  |false=>exact hr
 |_=>exact hr
theorem xw(h:∀a,(Lf.own j).R ν H a->y.R ν H a):∀{l:List Lf} {a:List Value},dd ν H l a->dd ν H (l.map (ql j y)) a
 |[],_,hr=>hr
 |_::_,_,⟨a,az,h1,h2,h3⟩=>⟨a,az,h1,LH h h2,xw h h3⟩
theorem JV(h:∀a,(Lf.own j).R ν H a->y.R ν H a):∀{l:S1} {a:Value},l.R ν H a->(fz1 j y l).R ν H a
 |.lf _,_,hr=>LH h hr
 |.agg _,_,⟨vs,h1,h2⟩=>⟨vs,h1,xw h h2⟩
theorem M1(h:∀a,(Lf.own j).R ν H a->y.R ν H a):∀{l:List S1} {a:List Value},ee ν H l a->ee ν H (l.map (fz1 j y)) a
 |[],_,hr=>hr
 |_::_,_,⟨a,az,h1,h2,h3⟩=>⟨a,az,h1,JV h h2,M1 h h3⟩
theorem La(h:∀a,(Lf.own j).R ν H a->y.R ν H a):∀{l:Sv} {a:Value},l.R ν H a->(fzV j y l).R ν H a
 |.s _,_,hr=>JV h hr
 |.fP _,_,⟨vs,h1,h2⟩=>⟨vs,h1,M1 h h2⟩
 |.pr κ _ _,_,⟨b,o,vs,h1,h2,h3⟩=>⟨b,o,vs,h1,h2,xw h h3⟩
 |.pw ..,_,hr=>hr
 |.fc ..,_,hr=>hr
 |.pa ..,_,hr=>hr
theorem Bh(h:∀a,(Lf.own j).R ν H a->y.R ν H a){f:SF}{e:Env}(hs:dI ν H f e):∀{l:List (Nat×Option Sv)},dI ν H (aT (sY j y f l)) e
 |[]=>λt sv ht=>by cases ht
 |(t,_)::r=>by
  simp only[sY];split
  . rename_i s hf;cases hm:cC j (Gv (some s))with
    |false=>exact Bh h hs
    |true=>
     intro t' sv ht;have ht:(bif Nat.beq t' t then some (fzV j y s)else aT (sY j y f r) t')=some sv:=ht;cases hb:Nat.beq t' t with
     |true=>rw[hb]at ht;cases ht;have:=dV hb;subst this;exact La h (hs _ _ hf)
     |false=>rw[hb]at ht;exact Bh h hs (l:=r) t' sv ht
  . exact Bh h hs
theorem A6{f:OF}:∀{l:List (Nat×Option Ob)} {i:Nat} {o:Option Ob},(i,o)∈tB j y f l->∃c,f i=some (.box c)/\o=some (.box (c.map (ql j y)))
 |[],_,_,h=>by cases h
 |(k,_)::r,i,o,h=>by
  simp only[tB]at h;split at h
  . rename_i l hl;cases hm:cC j (uF l)with
    |false=>rw[hm]at h;exact A6 h
    |true=>
     rw[hm]at h;rcases ej.1 h with e|e
     . cases e;exact⟨l,hl,rfl⟩
     . exact A6 e
  . exact A6 h
end
def dls{α:Type 1}:List Nat->List (Nat×Option α)
 |[]=>[]
 |i::r=>(i,none)::dls r
def fzB(j:Nat)(y:Lf):Option Ob->Option Ob
 |some (.box l)=>some (.box (l.map (ql j y)))
 |o=>o
def fzS(j:Nat)(y:Lf):Option Sv->Option Sv
 |some s=>some (fzV j y s)
 |none=>none
def Br(j:Nat)(y:Lf)(f:OF):List Nat->List (Nat×Option Ob)
 |[]=>[]
 |i::r=>(i,fzB j y (f i))::Br j y f r
def B7(j:Nat)(y:Lf)(f:SF):List Nat->List (Nat×Option Sv)
 |[]=>[]
 |t::r=>(t,fzS j y (f t))::B7 j y f r
def A3(f:OF):List Nat->Bool
 |[]=>true
 |i::r=>(match f i with|some (.box _)=>true|_=>false)&&A3 f r
theorem IY{j:Nat}{y:Lf}{f:OF}:∀{l:List Nat} {i:Nat} {o:Option Ob},A3 f l=true->(i,o)∈Br j y f l->∃c,f i=some (.box c)/\o=some (.box (c.map (ql j y)))
 |[],_,_,_,h=>by cases h
 |k::r,i,o,hb,h=>by
  simp only[A3,fZ]at hb;rcases ej.1 h with e|e
  . cases e;have h1:=hb.1;split at h1
    . rename_i c hc;exact⟨c,hc,by rw[hc];rfl⟩
    . cases h1
  . exact IY hb.2 e
theorem IW{ν:Nu}{H:Bool->Hp}{j:Nat}{y:Lf}(h:∀a,(Lf.own j).R ν H a->y.R ν H a){f:SF}{e:Env}(hs:dI ν H f e):∀{l:List Nat},dI ν H (aT (B7 j y f l)) e
 |[]=>λt sv ht=>by cases ht
 |t::r=>by
  intro t' sv ht;have ht:(bif Nat.beq t' t then fzS j y (f t)else aT (B7 j y f r) t')=some sv:=ht;cases hb:Nat.beq t' t with
  |true=>
   rw[hb]at ht;have:=dV hb;subst this;cases hf:f t' with
   |none=>rw[hf]at ht;cases ht
   |some s=>rw[hf]at ht;cases ht;exact La h (hs _ _ hf)
  |false=>rw[hb]at ht;exact IW h hs (l:=r) t' sv ht
theorem jR{α:Type}(j:Nat)(ts is:List Nat){rp:bZ α}{κ:Bool}{xs:List α}(hj:aT L.bI j=some (.row rp κ xs):=by rfl):
 Vw L ⟨0,tB j (.ro rp κ xs) (aT L.bI) (dls is)++[(j,none)],sY j (.ro rp κ xs) (aT L.bX) (dls ts)⟩:=by
 refine⟨λX w0 H0 ν oF e w ho hn hS hs=>?_⟩;obtain⟨b,c,n,kk,q1,q2,e1,e0,cs,sp,e2,e3,e4⟩:=hS.de j _ (ho j _ hj);subst e2;obtain⟨g1,g2⟩:=hS.go (T:=[j]) (O:=[b]) (new:=[]) (oF':=bQ [(j,none)] oF) (ν':=ν) (λb' hb=>by simp only[cG]at hb;exact⟨j,by simp,_,ho j _ hj,by rw[eT q1,hb]⟩) ((jD q2).drop 0).1 (fk.refl ν) rfl (by simp)
  (λi o h=>by
   rcases j4 h with h|⟨h,h2⟩
   . simp at h
   . refine .inl ⟨h,λhm=>?_⟩;simp only[cG]at hm;subst hm;simp[cC]at h2)
  (λ_ x hx=>by cases hx) (λx hx=>by cases hx) ⟨rfl,rfl⟩
 have hy:∀a,(Lf.own j).R ν (HF X w0 H0 ν (bQ [(j,none)] oF) w) a->(Lf.ro rp κ xs).R ν (HF X w0 H0 ν (bQ [(j,none)] oF) w) a:=by
  rintro a ⟨b',c',n',r1,rfl⟩;rw[q1]at r1;cases r1;cases b with
  |none=>exact rD q2 e3 e0
  |some b=>
   have hno:¬Ow ν (bQ [(j,none)] oF) b:=by
    rintro⟨i,ob,r2,r3⟩;rcases j4 r2 with h|⟨h,h2⟩
    . simp at h
    . have:=hS.gR i j ob _ b h (ho j _ hj) r3 (.inl (eT q1));subst this;simp[cC]at h2
   exact xJ (pO q2 λq hq=>lL (hS.fresh j _ b (ho j _ hj) (.inl (eT q1))) hno (uQ q2 hq)) (e3.mono (g2 κ)) e0 rfl e1 e4
 obtain⟨k1,k2⟩:=g1.review (up:=tB j (.ro rp κ xs) (aT L.bI) (dls is)) (λi o h=>by
  obtain⟨l,r1,r2⟩:=A6 h;refine⟨.box l,_,r2,?_,rfl,?_⟩
  . have hne:i≠j:=by rintro rfl;rw[hj]at r1;cases r1
    show(bif Nat.beq i j then none else oF i)=_;have:Nat.beq i j=false:=by
     cases hb:Nat.beq i j with
     |false=>rfl
     |true=>exact bV (dV hb) hne
    rw[this];exact ho i _ r1
  . rintro c n k ⟨vs,r3,r4⟩;exact⟨vs,r3,xw hy r4⟩)
 rw[<-pf]at k1 k2;refine⟨ν,ja.refl,k1,λκ=>by rw[k2];exact g2 κ,?_⟩;rw[k2];exact Bh hy (hs.mono (fk.refl ν) g2)
theorem dQ{α:Type}(j:Nat)(ts is:List Nat){rp:bZ α}{κ:Bool}{xs:List α}(hj:aT L.bI j=some (.row rp κ xs):=by rfl)(hb:A3 (aT L.bI) is=true:=by rfl):
 Vw L ⟨0,Br j (.ro rp κ xs) (aT L.bI) is++[(j,none)],B7 j (.ro rp κ xs) (aT L.bX) ts⟩:=by
 refine⟨λX w0 H0 ν oF e w ho hn hS hs=>?_⟩;obtain⟨b,c,n,kk,q1,q2,e1,e0,cs,sp,e2,e3,e4⟩:=hS.de j _ (ho j _ hj);subst e2;obtain⟨g1,g2⟩:=hS.go (T:=[j]) (O:=[b]) (new:=[]) (oF':=bQ [(j,none)] oF) (ν':=ν) (λb' hb=>by simp only[cG]at hb;exact⟨j,by simp,_,ho j _ hj,by rw[eT q1,hb]⟩) ((jD q2).drop 0).1 (fk.refl ν) rfl (by simp)
  (λi o h=>by
   rcases j4 h with h|⟨h,h2⟩
   . simp at h
   . refine .inl ⟨h,λhm=>?_⟩;simp only[cG]at hm;subst hm;simp[cC]at h2)
  (λ_ x hx=>by cases hx) (λx hx=>by cases hx) ⟨rfl,rfl⟩
 have hy:∀a,(Lf.own j).R ν (HF X w0 H0 ν (bQ [(j,none)] oF) w) a->(Lf.ro rp κ xs).R ν (HF X w0 H0 ν (bQ [(j,none)] oF) w) a:=by
  rintro a ⟨b',c',n',r1,rfl⟩;rw[q1]at r1;cases r1;cases b with
  |none=>exact rD q2 e3 e0
  |some b=>
   have hno:¬Ow ν (bQ [(j,none)] oF) b:=by
    rintro⟨i,ob,r2,r3⟩;rcases j4 r2 with h|⟨h,h2⟩
    . simp at h
    . have:=hS.gR i j ob _ b h (ho j _ hj) r3 (.inl (eT q1));subst this;simp[cC]at h2
   exact xJ (pO q2 λq hq=>lL (hS.fresh j _ b (ho j _ hj) (.inl (eT q1))) hno (uQ q2 hq)) (e3.mono (g2 κ)) e0 rfl e1 e4
 obtain⟨k1,k2⟩:=g1.review (up:=Br j (.ro rp κ xs) (aT L.bI) is) (λi o h=>by
  obtain⟨l,r1,r2⟩:=IY hb h;refine⟨.box l,_,r2,?_,rfl,?_⟩
  . have hne:i≠j:=by rintro rfl;rw[hj]at r1;cases r1
    show(bif Nat.beq i j then none else oF i)=_;have:Nat.beq i j=false:=by
     cases hb:Nat.beq i j with
     |false=>rfl
     |true=>exact bV (dV hb) hne
    rw[this];exact ho i _ r1
  . rintro c n k ⟨vs,r3,r4⟩;exact⟨vs,r3,xw hy r4⟩)
 rw[<-pf]at k1 k2;refine⟨ν,ja.refl,k1,λκ=>by rw[k2];exact g2 κ,?_⟩;rw[k2];exact IW hy (hs.mono (fk.refl ν) g2)
end
open Go Go.RowKit Go.X
variable [fq]
def wkL:Lf->Lf->Option Lf
 |.ro r κ xs,.ro _ κ' _=>some (.ro r (wk κ κ') xs)
 |.cp r κ xs,.ro _ κ' _=>some (.ro r (wk κ κ') xs)
 |.v (.slice none 0 0),.ro r κ _=>some (.ro r κ [])
 |.v x,_=>some (.v x)
 |.pd q,_=>some (.pd q)
 |_,_=>none
def pM:List Lf->List Lf->Option (List Lf)
 |[],[]=>some []
 |a::r,b::s=>match wkL a b with
  |some x=>match pM r s with
   |some y=>some (x::y)
   |none=>none
  |none=>none
 |_,_=>none
section
variable {ν ν':Nu} {H:Bool->Hp}
theorem OA(hw:Le (H true) (H false)){x y l:Lf}{a:Value}(h:wkL x y=some l)(hr:x.R ν H a):l.R ν' H a:=by
 unfold wkL at h;split at h
 . cases h;exact Rs.mono hr (nj hw (λ_=>Le.refl _) _ _)
 . cases h;exact Rs.mono hr.1 (nj hw (λ_=>Le.refl _) _ _)
 . cases h;obtain⟨h1,_⟩:=hr;rw[h1];exact Rs.nil
 . cases h;exact hr
 . cases h;exact hr
 . cases h
theorem tE(hw:Le (H true) (H false)):∀{x y l:List Lf} {a:List Value},pM x y=some l->dd ν H x a->dd ν' H l a
 |[],[],l,a,h,hr=>by cases h;exact hr
 |x::r,y::s,l,a,h,hr=>by
  simp only[pM]at h;split at h
  . rename_i u hu;split at h
    . rename_i z hz;cases h;obtain⟨a,az,h1,h2,h3⟩:=hr;exact⟨a,az,h1,OA hw hu h2,tE hw hz h3⟩
    . cases h
  . cases h
 |[],_::_,_,_,h,_=>by cases h
 |_::_,[],_,_,h,_=>by cases h
end
def cx:Bool->Bool->Bool
 |false,true=>false
 |_,_=>true
theorem wE{H:Bool->Hp}(hw:Le (H true) (H false)):∀{κ κ':Bool},cx κ κ'=true->Le (H κ) (H κ')
 |true,true,_=>Le.refl _
 |true,false,_=>hw
 |false,false,_=>Le.refl _
 |false,true,h=>by cases h
def v7{α:Type}(rp:bZ α):Prop:=∀(H H':Hp) (vs:List Value) (x:α),rp.R H vs x->rp.R H' vs x
theorem bq{α:Type}{g:Option α}{a:α}(h:g=some a):g.bind some=some a:=by rw[h];rfl
section
variable {P:Program} {tb:List (dU P)} {L:SS} {o:Oper} {K:Ef->Option Sv->Prop} {β:Type} {res:β} {t u el:TypeId} {x y:Operand} {T E:dU P} {kk:IntKind}
theorem bR{α:Type}{rp:bZ α}[aM rp]{κ:Bool}{xs:List α}{i:Int}{f:α->Option β}(h:(idx xs i).bind f=some res)(nx:∀a,f a=some res->K .z (some (.pr κ (aM.cl rp κ a) 0)))
 (ho:o.op=.indexAddr t x y:=by rfl)(hx:bW L x=some (.s (.lf (.ro rp κ xs))):=by rfl)(hy:lv (bW L y)=some (.int kk i):=by rfl)(hT:cP tb t=some T:=by rfl)(hd:T.d=.slice el:=by rfl)(hE:cP tb el=some E:=by rfl)(hz:E.sz=rp.sz:=by rfl):cA tb o L K:=by
 obtain⟨a,q1,q2⟩:=bind_some h;obtain⟨n,q3,q4⟩:=tV q1;refine cA.of (LT.look λν H e w hv ht hO hS=>?_) (nx a q2);rw[ho];have h1:Rs rp (H κ) (ev e x) xs:=du hS hx;obtain⟨b,o',cap,vs,g1,g2,g3,g4⟩:=h1.get q4;exact aG.K6 (gD hT hd) (iT hE hz) rfl g1 (eY hS hy).1 q3 q4 rfl ⟨rfl,b,o'+n*rp.sz,vs,rfl,g3,aM.op g4⟩
theorem vq{α:Type}{rp:bZ α}{κ:Bool}{xs:List α}{j:Nat}{ν:Nu}{H:Bool->Hp}{w:World}(hO:∀i ob,aT L.bI i=some ob->∃b c n k,ν i=some (b,c,n)/\dN w b k/\ob.R ν H c n k)(hj:aT L.bI j=some (.row rp κ xs)):
 ∃b c cs sp,ν j=some (b,c,xs.length)/\dN w b (.cells ([]++(cs++sp)))/\ct rp (H κ) cs xs/\(cs++sp).length=c*rp.sz/\(rp.sz==0)=false:=by
 obtain⟨b,c,n,k,q1,q2,e1,e0,cs,sp,rfl,e3,e4⟩:=hO j _ hj;subst e1;exact⟨b,c,cs,sp,q1,q2,e3,e4,e0⟩
theorem BN{α:Type}{rp:bZ α}{xs:List α}{w:World}{b:Option Nat}{cs sp:List Value}{H:Hp}{n:Nat}{a:α}(hc:dN w b (.cells ([]++(cs++sp))))(hE:ct rp H cs xs)(hz:(rp.sz==0)=false)(hn:xs[n]?=some a):∃b',b=some b':=by
  have hpos : 0 < rp.sz := by have : ¬ rp.sz = 0 := by simpa using hz
                              omega
  cases b with
  |some b=>exact⟨b,rfl⟩
  |none=>
    have hc:[]++(cs++sp)=[]:=hc;have:=yq (pre:=[]) (sp:=sp) hE hn hpos;rw[hc]at this;simp at this
theorem cK{α:Type}{rp:bZ α}{κ:Bool}{xs:List α}{i:Int}{f:α->Option β}{j:Nat}(h:(idx xs i).bind f=some res)(nx:∀a,f a=some res->K .z (some (.pw j rp xs a i 0)))
 (ho:o.op=.indexAddr t x y:=by rfl)(hx:bW L x=some (.s (.lf (.own j))):=by rfl)(hj:aT L.bI j=some (.row rp κ xs):=by rfl)(hy:lv (bW L y)=some (.int kk i):=by rfl)(hT:cP tb t=some T:=by rfl)(hd:T.d=.slice el:=by rfl)(hE:cP tb el=some E:=by rfl)(hz:E.sz=rp.sz:=by rfl):cA tb o L K:=by
 obtain⟨a,q1,q2⟩:=bind_some h;obtain⟨n,q3,q4⟩:=tV q1;refine cA.of (LT.look λν H e w hv ht hO hS=>?_) (nx a q2);rw[ho];obtain⟨b,c,cs,sp,g1,g4,g5,g6,g7⟩:=vq hO hj;obtain⟨b',c',n',m1,m2⟩:(Lf.own j).R ν H (ev e x):=du hS hx;rw[g1]at m1;cases m1;obtain⟨b,rfl⟩:=BN g4 g5 g7 q4;exact aG.DE (r:=rp) (q:=n*rp.sz+0) (gD hT hd) (iT hE hz) m2 rfl (eY hS hy).1 q3 (ep.1 q4).1 (by omega) ⟨rfl,b,_,n,g1,q3,q4,rfl⟩
theorem dX{α:Type}{rp:bZ α}[aM rp]{κ:Bool}{xs:List α}{a:α}{i:Int}{j off:Nat}{s:S1}(nx:K .z (some (.s s)))
 (ho:o.op=.load t x:=by rfl)(hx:bW L x=some (.pw j rp xs a i off):=by rfl)(hj:aT L.bI j=some (.row rp κ xs):=by rfl)(hT:cP tb t=some T:=by rfl)(hl:te (iU T.d) T.sz (aM.cl rp κ a) off=some s:=by rfl):cA tb o L K:=by
 refine cA.of (LT.look λν H e w hv ht hO hS=>?_) nx;rw[ho];obtain⟨b,c,cs,sp,g1,g4,g5,g6,g7⟩:=vq hO hj;obtain⟨b',c',n',m1,m2,m3,m4⟩:=du hS hx;rw[g1]at m1;cases m1;obtain⟨vs,v1,v2,v3⟩:=FZ (pre:=[]) (sp:=sp) g5 m3;simp only[dZ,fb]at v3;rcases uW hl (aM.op v2:dd ν H _ vs)with⟨h1,v,h2,h3⟩|⟨h1,us,h2,h3,h4⟩
 . have hp:=zO (us:=[v]) (q:=off) v3 (by
    rw[jN];obtain⟨hlt,hv⟩:=ep.1 h2;rw[fJ hlt,hv];rfl)
   exact aG.M2 (gL hT) h1 m4 g4 hp ⟨rfl,h3⟩
 . exact aG.GZ (gL hT) h1 (gu hT) m4 g4 h2 (zO v3 h3) ⟨rfl,h4⟩
theorem eH{α:Type}(κn:Bool){rp:bZ α}[aM rp]{κ:Bool}{xs xs0:List α}{a z:α}{i:Int}{f:List α->Option β}{j:Nat}{s:S1}(h:(dM xs i z).bind f=some res)(nx:∀Y,f Y=some res->K ⟨0,[(j,some (.row rp κn Y))],[]⟩ none)
 (ho:o.op=.store t x y:=by rfl)(hx:bW L x=some (.pw j rp xs0 a i 0):=by rfl)(hj:aT L.bI j=some (.row rp κ xs):=by rfl)(hT:cP tb t=some T:=by rfl)(hz:T.sz=rp.sz:=by rfl)
 (hy:bW L y=some (.s s):=by rfl)(hw:pM (k7 s) (aM.cl rp κn z)=some (aM.cl rp κn z):=by rfl)(hk:cx κ κn=true:=by rfl):cA tb o L K:=by
 obtain⟨Y,q1,q2⟩:=bind_some h;obtain⟨n,q3,q4,q5⟩:=EB q1;refine cA.of (LT.md hj λν H e w b c n0 k0 hv ht hO hS p1 p2 p3=>?_) (nx Y q2);rw[ho];obtain⟨e1,g7,cs,sp,rfl,g5,g6⟩:=p3;obtain⟨b',c',n',m1,m2,m3,m4⟩:=du hS hx;rw[p1]at m1;cases m1;obtain rfl:n'=n:=NS.1 (m2.symm.trans q3);obtain⟨vs,v1,v2⟩:=sD (du hS hy);have v3:=tE (ν':=ν) ht hw v2;refine aG.On (pre:=[]) (H:=H κn) (iT hT hz) m4 rfl v1 (aM.co v3) (jD p2) 0 rfl rfl (g5.mono (wE ht hk)) q4 (by simp) q5 ?_;intro w' cs' hL' hst hE' hlen;refine⟨_,hL',λH' hH=>⟨by rw[e1,q5,iK],g7,cs',sp,rfl,hE'.mono (hH κn),by rw[di]at g6⊢;rw[hlen];exact g6⟩⟩
theorem stP{α:Type}{rp:bZ α}[aM rp]{κ:Bool}{xs xs0:List α}{a a1 z:α}{i:Int}{f:List α->Option β}{j off:Nat}{s:S1}(h:(dM xs i z).bind f=some res)(nx:∀Y,f Y=some res->K ⟨0,[(j,some (.row rp κ Y))],[]⟩ none)
    (ha:idx xs i=some a1)
    (ho:o.op=.store t x y:=by rfl)(hx:bW L x=some (.pw j rp xs0 a i off):=by rfl)(hj:aT L.bI j=some (.row rp κ xs):=by rfl)(hT:cP tb t=some T:=by rfl)
    (hy:bW L y=some (.s s):=by rfl)(hs:Nat.beq (k7 s).length T.sz=true:=by rfl)(hf:Nat.ble (off+T.sz) rp.sz=true:=by rfl)(hw:pM (vJ (aM.cl rp κ a1) off (k7 s)) (aM.cl rp κ z)=some (aM.cl rp κ z):=by rfl):cA tb o L K:=by
  obtain⟨Y,q1,q2⟩:=bind_some h;obtain⟨n,q3,q4,q5⟩:=EB q1;obtain⟨n2,a2,a3⟩:=tV ha;obtain rfl:n2=n:=NS.1 (a2.symm.trans q3);refine cA.of (LT.md hj λν H e w b c n0 k0 hv ht hO hS p1 p2 p3=>?_) (nx Y q2);rw[ho];obtain⟨e1,g7,cs,sp,rfl,g5,g6⟩:=p3;obtain⟨b',c',n',m1,m2,m3,m4⟩:=du hS hx;rw[p1]at m1;cases m1;obtain rfl:n'=n2:=NS.1 (m2.symm.trans q3);obtain⟨us,v1,v2⟩:=sD (du hS hy);have hsz:=dV hs;have hfit:=kR hf;obtain⟨vs,w1,w2,w3⟩:=FZ (pre:=[]) (sp:=sp) g5 a3;simp only[dZ,fb,jz]at w3;have hul:=v2.length;have hcl:=g5.length;have hnl:n'<xs.length:=q4;have hmul:n'*rp.sz+rp.sz<=xs.length*rp.sz:=by
    have:=o5 rp.sz (show n'+1<=xs.length from hnl);rwa[ig,zn]at this
  have hin:n'*rp.sz+off+us.length<=(cs++sp).length:=by
    rw[di,hcl,hul,hsz];omega
  have v3:=tE (ν':=ν) ht hw (((aM.op w2:dd ν H _ vs)).put v2);have hput:∀(l:List Value) (p q:Nat) (us:List Value),q+us.length<=(l.drop p).length->putAt l (p+q) us=l.take p++putAt (l.drop p) q us:=by
    intro l p q us
    induction us generalizing l q with
    |nil=>intro _;simp[putAt]
    |cons u us ih=>
      intro hq;have hlp:p<=l.length:=by
        rcases cH l.length p with h|h
        . rw[C9 (C2 h)]at hq;simp at hq
        . exact h
      show putAt (l.set (p+q) u) (p+q+1) us=l.take p++putAt ((l.drop p).set q u) (q+1) us;rw[show p+q+1=p+(q+1) by omega,ih (l.set (p+q) u) (q+1) (by simp at hq⊢;omega)];congr 1
      . apply qn;intro m;simp only[wH];split
        . rw[wJ (by omega)]
        . rfl
      . congr 1;rw[List.drop_set];split
        . omega
        . congr 1;omega
  refine aG.store (gu hT) m4 rfl v1 (by rw[hul,hsz]) v2.fH (jD p2) 0 rfl rfl (by simpa using hin) λw' h1 h2=>?_;have key:putAt ([]++(cs++sp)) (n'*rp.sz+off) us=[]++(putAt cs (n'*rp.sz) (putAt vs off us)++sp):=by
    simp only[jz];have hd:n'*rp.sz<=(cs++sp).length:=by rw[di,hcl];omega
    have hvs:(cs.drop (n'*rp.sz)).take rp.sz=vs:=by
      have:=w3;rw[w1,C3 (by rw[hcl];omega),rO (by rw[wL,hcl];omega)]at this;exact this
    have hcs:cs=cs.take (n'*rp.sz)++(vs++cs.drop (n'*rp.sz+rp.sz)):=by
      conv=>lhs;rw[<-nT (n'*rp.sz) cs,<-nT rp.sz (cs.drop (n'*rp.sz)),hvs,rN]
    have pre_put:∀(us:List Value) (A B:List Value) (q:Nat),q+us.length<=B.length->putAt (A++B) (A.length+q) us=A++putAt B q us:=by
      intro us A B q hq;have:=hput (A++B) A.length q us (by rw[NT];exact hq);rw[this,List.take_left,NT]
    have post_put:∀(us:List Value) (A B:List Value) (q:Nat),q+us.length<=A.length->putAt (A++B) q us=putAt A q us++B:=by
      intro us
      induction us with
      |nil=>intro A B q _;rfl
      |cons u us ih=>
        intro A B q hq;simp only[cJ]at hq;show putAt ((A++B).set q u) (q+1) us=putAt (A.set q u) (q+1) us++B;rw[List.set_append_left _ _ (by omega),ih _ _ _ (by simp;omega)]
    have plen:∀(us l:List Value) (q:Nat),(putAt l q us).length=l.length:=by
      intro us
      induction us with
      |nil=>intro l q;rfl
      |cons u us ih=>intro l q;show(putAt (l.set q u) (q+1) us).length=_;rw[ih];simp
    have hA:(cs.take (n'*rp.sz)).length=n'*rp.sz:=by rw[fA,hcl];omega
    have l1:putAt (cs++sp) (n'*rp.sz+off) us=putAt cs (n'*rp.sz+off) us++sp:=post_put us cs sp _ (by rw[hcl,hul,hsz];omega);have l2:putAt cs (n'*rp.sz+off) us=cs.take (n'*rp.sz)++(putAt vs off us++cs.drop (n'*rp.sz+rp.sz)):=by
      conv=>lhs;rw[hcs]
      have:=pre_put us (cs.take (n'*rp.sz)) (vs++cs.drop (n'*rp.sz+rp.sz)) off (by rw[di,w1,hul,hsz];omega);rw[hA]at this;rw[this,post_put us vs _ off (by rw[w1,hul,hsz];omega)]
    have l3:putAt cs (n'*rp.sz) (putAt vs off us)=cs.take (n'*rp.sz)++(putAt vs off us++cs.drop (n'*rp.sz+rp.sz)):=by
      conv=>lhs;rw[hcs]
      have:=pre_put (putAt vs off us) (cs.take (n'*rp.sz)) (vs++cs.drop (n'*rp.sz+rp.sz)) 0 (by rw[plen,di];omega);rw[hA,qs]at this;rw[this,post_put _ vs _ 0 (by rw[plen];omega)];congr 2;have full:∀(us l:List Value),us.length=l.length->putAt l 0 us=us:=by
        intro us l hl;have gen:∀(us A B:List Value),B.length=us.length->putAt (A++B) A.length us=A++us:=by
          intro us
          induction us with
          | nil => intro A B hB; obtain rfl : B = [] := by simpa using hB
                   rfl
          |cons u us ih=>
            intro A B hB;cases B with
            |nil=>simp at hB
            |cons b B=>
              show putAt ((A++b::B).set A.length u) (A.length+1) us=_;rw[List.set_append_right _ _ (bO _),wI];have:=ih (A++[u]) B (by simpa using hB);simp only[di,jN,jy,NU]at this;exact this
        have:=gen us [] l hl.symm;simpa using this
      exact full _ _ (plen _ _ _)
    rw[l1,l2,l3]
  have h1:Go.X.Loc [some b'] [] w w' [some b'] [.cells (putAt ([]++(cs++sp)) (n'*rp.sz+off) us)]:=h1;rw[key]at h1;refine⟨_,h1,λH' hH=>⟨by rw[e1,q5,iK],g7,_,sp,rfl,?_,?_⟩⟩
  . rw[q5];exact(g5.set (aM.co v3) hnl).mono (hH κ)
  . have plen:∀(us l:List Value) (q:Nat),(putAt l q us).length=l.length:=by
      intro us
      induction us with
      |nil=>intro l q;rfl
      |cons u us ih=>intro l q;show(putAt (l.set q u) (q+1) us).length=_;rw[ih];simp
    rw[di,plen,<-di];exact g6
theorem cl(md:Option Bool)(is:List Nat)(nn:Nat){ρ:Type}{g:Option ρ}{f:ρ->Option β}{fid:FuncId}{args:List Operand}{ats:Array TypeId}{ls az:List S1}{ib:List Ob}{out:ρ->List (Nat×Option Ob)}{rs:ρ->List S1}
 (h:g.bind f=some res)(c:∀r,g=some r->Cx P fid az ib (out r) (rs r))(nx:∀r,f r=some res->K ⟨nn,fw md is L.nx (out r)++iz is,[]⟩ (some (pA ((rs r).map (lj md is L.nx)))))
 (ho:o.op=.call {callee:=.value (.func fid),args:=args.toArray,argTypes:=ats}:=by rfl)(ha:oQ L args=some ls:=by rfl)(hl:kH md (aT L.bI) is ls az=some az:=by rfl)(hb:jw md (aT L.bI) is is ib=some ib:=by rfl)(hn:gn is=true:=by rfl)
 (h1:∀r,oC md (is.length+nn) (out r)=true:=by intro r;rfl)(h2:∀r,(rs r).all (pK md (is.length+nn))=true:=by intro r;rfl)(h3:∀r,gn ((out r).map (·.1))=true:=by intro r;rfl):cA tb o L K:=by
 obtain⟨r,q1,q2⟩:=bind_some h;refine cA.of ?_ (nx r q2);rw[ho];exact Ib md is nn (c r q1) ha hl hb hn (h1 r) (h2 r) (h3 r)
inductive vH {α:Type}(L:SS)(rp:bZ α)(κs:Bool)(ys:List α):Lf->Prop
 |ro:vH L rp κs ys (.ro rp κs ys)
 |own {j:Nat} (h:aT L.bI j=some (.row rp κs ys)):vH L rp κs ys (.own j)
theorem Rs.srcH{α:Type}{r:bZ α}{H:Hp}{w:World}{v:Value}{xs:List α}(hv:Le H (view [] w))(h:Rs r H v xs):∃cs,Src w v xs.length r.sz cs/\ct r H cs xs:=by
 rcases h with⟨h1,h2⟩|⟨b,o,cap,hv',hc,hxs⟩
 . subst h2;exact⟨[],⟨by simp,.inl ⟨h1,rfl⟩⟩,rfl⟩
 . obtain⟨cs,g1,g2⟩:=Rs.cells hxs;exact⟨cs,⟨g2.length,.inr ⟨b,o,cap,hv',λj u hj=>yw (A:=[]) (yA hv (g1.get j hj))⟩⟩,g2⟩
theorem Fg{α:Type}{l:Lf}{rp:bZ α}{κs κn:Bool}{ys:List α}{ν:Nu}{H:Bool->Hp}{w:World}{v:Value}(hv:∀κ,Le (H κ) (view [] w))(ht:Le (H true) (H false))(hO:∀i ob,aT L.bI i=some ob->∃b c n k,ν i=some (b,c,n)/\dN w b k/\ob.R ν H c n k)
 (hs:vH L rp κs ys l)(hk:cx κs κn=true\/v7 rp)(hl:l.R ν H v):∃ds,Src w v ys.length rp.sz ds/\ct rp (H κn) ds ys:=by
 have fin:∀ds,ct rp (H κs) ds ys->ct rp (H κn) ds ys:=λds hE=>by
  rcases hk with hk|hk
  . exact hE.mono (wE ht hk)
  . exact ct.F1 hk hE
 cases hs with
 |ro=>
  obtain⟨ds,h1,h2⟩:=Rs.srcH (hv κs) hl;exact⟨ds,h1,fin ds h2⟩
 |own hj=>
  obtain⟨b,c,cs,sp,g1,g4,g5,g6,g7⟩:=vq hO hj;obtain⟨b',c',n',q1,rfl⟩:=hl;rw[g1]at q1;cases q1;exact⟨cs,Src.row g4 g5 g7 rfl rfl,fin cs g5⟩
theorem ei{α:Type}(κn:Bool){rp:bZ α}{κ κs:Bool}{xs ys:List α}{bs:Nat}{f:List α->Option β}{a c:Operand}{j:Nat}{l:Lf}(h:(cZ bs xs ys).bind f=some res)
 (nx:∀Y,f Y=some res->K ⟨1,[(L.nx,some (.row rp κn Y)),(j,none)],[]⟩ (some (.s (.lf (.own L.nx)))))
 (ho:o.op=.call {callee:=.builtin .append,args:=#[a,c],argTypes:=#[t,t]}:=by rfl) (ha:bW L a=some (.s (.lf (.own j))):=by rfl) (hj:aT L.bI j=some (.row rp κ xs):=by rfl) (hc:bW L c=some (.s (.lf l)):=by rfl)
 (hs:vH L rp κs ys l:=by first|exact .ro|exact .own rfl) (hT:cP tb t=some T:=by rfl) (hd:T.d=.slice el:=by rfl) (hE:cP tb el=some E:=by rfl) (hz:E.sz=rp.sz:=by rfl) (hb:E.qV=bs:=by rfl) (hq:Nat.beq E.z.cells.size rp.sz=true:=by rfl)
 (hk:cx κ κn=true\/v7 rp:=by first|exact .inl rfl|exact .inr λ_ _ _ _ h=>h) (hks:cx κs κn=true\/v7 rp:=by first|exact .inl rfl|exact .inr λ_ _ _ _ h=>h):cA tb o L K:=by
 obtain⟨Y,q1,q2⟩:=bind_some h;obtain⟨q3,q4,q5⟩:=BL q1;refine cA.of (LT.rp hj λν H e w b cp n k0 hv ht hO hS p1 p2 p3=>?_) (nx Y q2);rw[ho];obtain⟨e1,g7,cs,sp,rfl,g5,g6⟩:=p3;obtain⟨b',c',n',m1,m2⟩:(Lf.own j).R ν H (ev e a):=du hS ha;rw[p1]at m1;cases m1;obtain⟨ds,d1,d2⟩:=Fg hv ht hO hs hks (du hS hc);subst hb;have g5':ct rp (H κn) cs xs:=by
  rcases hk with hk|hk
  . exact g5.mono (wE ht hk)
  . exact ct.F1 hk g5
 refine aG.I7 (H:=H κn) (gD hT hd) (iT hE hz) (dV hq) g7 m2 rfl (jD p2) (i:=0) rfl rfl g5' e1 g6 d1 d2 q3 q4 q5 ?_;intro ob' cap' sp' ds' w' hE' hcap hL' hst;exact⟨ob',cap',Y.length,_,hL',λν' H' hν hH=>⟨rfl,g7,ds',sp',rfl,hE'.mono (hH κn),hcap⟩,λν' H' hν hH hn=>⟨ob',cap',Y.length,hn,rfl⟩⟩
theorem ie{α:Type}(rp:bZ α)[aM rp]{z:α}{n:Int}{bs:Nat}{f:List α->Option β}{a c:Operand}{ka kc:IntKind}(h:(gF bs z n).bind f=some res)
 (nx:∀Y,f Y=some res->K ⟨1,[(L.nx,some (.row rp true Y))],[]⟩ (some (.s (.lf (.own L.nx)))))
 (ho:o.op=.makeSlice t a c:=by rfl)(ha:lv (bW L a)=some (.int ka n):=by rfl)(hc:lv (bW L c)=some (.int kc n):=by rfl)(hT:cP tb t=some T:=by rfl)(hd:T.d=.slice el:=by rfl)(hE:cP tb el=some E:=by rfl)(hz:E.sz=rp.sz:=by rfl)(hb:E.qV=bs:=by rfl)
 (h1:fH E.z.cells.toList=true:=by rfl)(hw:pM (E.z.cells.toList.map .v) (aM.cl rp true z)=some (aM.cl rp true z):=by rfl)(hr:(rp.sz==0)=false:=by rfl):cA tb o L K:=by
 obtain⟨Y,q1,q2⟩:=bind_some h;obtain⟨m,q3,q4,q5,q6⟩:=SK q1;refine cA.of (LT.nw λν H e w hv ht hO hS=>?_) (nx Y q2);rw[ho];subst hb;have hv':dd ν H (aM.cl rp true z) E.z.cells.toList:=tE (ν:=ν) ht hw (qL h1);refine aG.Un (H:=H true) (zc:=E.z.cells.toList) (gD hT hd) (iT hE hz) (by simp) (aM.co hv') (eY hS ha).1 (eY hS hc).1 q3 q4 q5 q6 (oc (w:=w)) ?_;intro b w' cs hE' hcap hL' hst;exact⟨some b,m,Y.length,_,hL',λν' H' hν hH=>⟨rfl,hr,cs,[],rfl,hE'.mono (hH true),hcap⟩,λν' H' hν hH hn=>⟨some b,m,Y.length,hn,rfl⟩⟩
def AG(L:SS):Nat->List (Nat×Operand)->Option (List S1)
 |_,[]=>some []
 |i,(q,x)::r=>match Nat.beq q i with
  |true=>match bW L x with
   |some (.s s)=>match AG L (i+1) r with
    |some y=>some (s::y)
    |none=>none
   |_=>none
  |false=>none
def zA:List S1->List (List Lf)->Option (List (List Lf))
 |[],[]=>some []
 |s::r,c::t=>match pM (k7 s) c with
  |some x=>match zA r t with
   |some y=>some (x::y)
   |none=>none
  |none=>none
 |_,_=>none
theorem Nt{ν:Nu}{H:Bool->Hp}{e:Env}(hS:dI ν H (aT L.bX) e):∀{parts:List (Nat×Operand)} {i:Nat} {ss:List S1},AG L i parts=some ss->∃vs,(parts.map λp=>(p.1,ev e p.2))=mo i vs/\ee ν H ss vs
 |[],i,_,h=>by cases h;exact⟨[],rfl,rfl⟩
 |(q,x)::r,i,_,h=>by
  simp only[AG]at h;split at h
  . rename_i hq;split at h
    . rename_i s hx;split at h
      . rename_i y hy;cases h;obtain⟨vs,g1,g2⟩:=Nt hS hy;have:=dV hq;subst this;exact⟨ev e x::vs,by simp[mo,g1],_,_,rfl,du hS hx,g2⟩
      . cases h
    . cases h
  . cases h
theorem Lm{α:Type}{rp:bZ α}[aM rp]{κ:Bool}{ν:Nu}{H:Bool->Hp}(hw:Le (H true) (H false)):∀{ss:List S1} {vs:List Value} {xs:List α},zA ss (xs.map (aM.cl rp κ))=some (xs.map (aM.cl rp κ))->ee ν H ss vs->∃css,tK rp.sz vs css/\ct rp (H κ) css.flatten xs/\vs.length=xs.length
 |[],vs,[],_,hr=>by rw[show vs=[] from hr];exact⟨[],trivial,rfl,rfl⟩
 |[],_,_::_,h,_=>by cases h
 |_::_,_,[],h,_=>by cases h
 |s::ss,_,x::xs,h,⟨v,vs,h1,h2,h3⟩=>by
  simp only[kz,zA]at h;split at h
  . rename_i u hu;split at h
    . rename_i y hy;simp only[ud,NP]at h;obtain⟨hu',hy'⟩:=h;subst hu';subst hy';obtain⟨css,g1,g2,g3⟩:=Lm (rp:=rp) (κ:=κ) hw hy h3;obtain⟨cs,c1,c2⟩:=sD h2;have c3:rp.R (H κ) cs x:=aM.co (tE (ν':=ν) hw hu c2);exact⟨cs::css,by rw[h1];exact⟨c1,rp.len _ _ _ c3,g1⟩,⟨cs,css.flatten,rfl,c3,g2⟩,by rw[h1];simp[g3]⟩
    . cases h
  . cases h
theorem dp{α:Type}(rp:bZ α)[aM rp](κ:Bool)(xs:List α){n:Nat}{parts:List (Nat×Operand)}{ss:List S1}(nx:K ⟨1,[(L.nx,some (.row rp κ xs))],[]⟩ (some (.s (.lf (.own L.nx)))))
 (ho:o.op=.buildSlice t n parts.toArray:=by rfl)(hp:AG L 0 parts=some ss:=by rfl)(hw:zA ss (xs.map (aM.cl rp κ))=some (xs.map (aM.cl rp κ)):=by rfl)(hl:xs.length=n:=by rfl)(hT:cP tb t=some T:=by rfl)(hd:T.d=.slice el:=by rfl)(hE:cP tb el=some E:=by rfl)(hz:E.sz=rp.sz:=by rfl)
 (h0:Nat.blt 0 (n*rp.sz)=true:=by rfl)(h1:Nat.ble (n*rp.sz) 16777216=true:=by rfl)(hr:(rp.sz==0)=false:=by rfl):cA tb o L K:=by
 refine cA.of (LT.nw λν H e w hv ht hO hS=>?_) nx;rw[ho];obtain⟨vs,v1,v2⟩:=Nt hS hp;obtain⟨css,c1,c2,c3⟩:=Lm (rp:=rp) (κ:=κ) ht hw v2;refine aG.R5 (H:=H κ) (gD hT hd) (iT hE hz) (kR h1) v1 (by rw[c3,hl]) c1 (by simpa using h0) c2 hl (oc (w:=w)) ?_;intro b w' hcap hL' hst;subst hl;exact⟨some b,xs.length,xs.length,_,hL',λν' H' hν hH=>⟨rfl,hr,_,[],rfl,c2.mono (hH κ),hcap⟩,λν' H' hν hH hn=>⟨some b,xs.length,xs.length,hn,rfl⟩⟩
theorem jI{α:Type}(rp:bZ α)(nx:K ⟨1,[(L.nx,some (.row rp true []))],[]⟩ (some (.s (.lf (.own L.nx)))))
 (ho:o.op=.buildSlice t 0 #[]:=by rfl) (hT:cP tb t=some T:=by rfl) (hd:T.d=.slice el:=by rfl) (hE:cP tb el=some E:=by rfl) (hz:E.sz=rp.sz:=by rfl) (hr:(rp.sz==0)=false:=by rfl):cA tb o L K:=by
 refine cA.of (LT.nw λν H e w hv ht hO hS=>?_) nx;rw[ho];refine aG.QU (gD hT hd) (iT hE hz) (oc (w:=w)) ?_;intro b w' hL' hst;exact⟨some b,0,0,_,hL',λν' H' hν hH=>⟨rfl,hr,[],[],rfl,ct.nil,by simp⟩,λν' H' hν hH hn=>⟨some b,0,0,hn,rfl⟩⟩
def vE(L:SS)(d:Int):Option Operand->Option Int
 |none=>some d
 |some x=>match lv (bW L x)with
  |some (.int _ i)=>some i
  |_=>none
theorem Be{ν:Nu}{H:Bool->Hp}{e:Env}(hS:dI ν H (aT L.bX) e){x:Option Operand}{d i:Int}(h:vE L d x=some i):(x=none/\i=d)\/∃k y,x=some y/\ev e y=.int k i:=by
 cases x with
 |none=>cases h;exact .inl ⟨rfl,rfl⟩
 |some x=>
  simp only[vE]at h;split at h
  . rename_i k i' hx;cases h;exact .inr ⟨k,x,rfl,(eY hS hx).1⟩
  . cases h
theorem zV{α:Type}{rp:bZ α}{κ:Bool}{xs:List α}{l h':Int}{f:List α->Option β}{lo hi:Option Operand}(h:(cut xs l h').bind f=some res)(nx:∀Y,f Y=some res->K .z (some (.s (.lf (.ro rp κ Y)))))
 (ho:o.op=.slice t x lo hi none:=by rfl)(hx:bW L x=some (.s (.lf (.ro rp κ xs))):=by rfl)(hlo:vE L 0 lo=some l:=by rfl)(hhi:vE L (xs.length:Int) hi=some h':=by rfl)(hT:cP tb t=some T:=by rfl)(hd:T.d=.slice el:=by rfl)(hE:cP tb el=some E:=by rfl)(hz:E.sz=rp.sz:=by rfl):cA tb o L K:=by
 obtain⟨Y,q1,q2⟩:=bind_some h;obtain⟨m,n,q3,q4,q5,q6,q7⟩:=JN q1;refine cA.of (LT.look λν H e w hv ht hO hS=>?_) (nx Y q2);rw[ho];have hr:Rs rp (H κ) (ev e x) xs:=du hS hx;refine aG.VT (l:=m) (h':=n) (gD hT hd) (iT hE hz) rfl hr ?_ ?_ q5 q6 q7 λv' hv=>⟨rfl,hv⟩
 . rcases Be hS hlo with⟨h1,h2⟩|⟨kk,y,h1,h2⟩
   . exact .inl ⟨h1,by omega⟩
   . exact .inr ⟨kk,y,h1,by rw[h2,q3]⟩
 . rcases Be hS hhi with⟨h1,h2⟩|⟨kk,y,h1,h2⟩
   . exact .inl ⟨h1,by omega⟩
   . exact .inr ⟨kk,y,h1,by rw[h2,q4]⟩
theorem EH{α:Type}{rp:bZ α}{κ:Bool}{xs:List α}{h':Int}{f:List α->Option β}{hi:Option Operand}{j:Nat}(h:(cut xs 0 h').bind f=some res)(nx:∀Y,f Y=some res->K ⟨1,[(L.nx,some (.row rp κ Y)),(j,none)],[]⟩ (some (.s (.lf (.own L.nx)))))
 (ho:o.op=.slice t x none hi none:=by rfl)(hx:bW L x=some (.s (.lf (.own j))):=by rfl)(hj:aT L.bI j=some (.row rp κ xs):=by rfl)(hhi:vE L (xs.length:Int) hi=some h':=by rfl)(hT:cP tb t=some T:=by rfl)(hd:T.d=.slice el:=by rfl)(hE:cP tb el=some E:=by rfl)(hz:E.sz=rp.sz:=by rfl):cA tb o L K:=by
 obtain⟨Y,q1,q2⟩:=bind_some h;obtain⟨m,n,q3,q4,q5,q6,q7⟩:=JN q1;refine cA.of (LT.rp hj λν H e w b cp n0 k0 hv ht hO hS p1 p2 p3=>?_) (nx Y q2);rw[ho];obtain⟨e1,g7,cs,sp,rfl,g5,g6⟩:=p3;obtain⟨b',c',n',m1,m2⟩:(Lf.own j).R ν H (ev e x):=du hS hx;rw[p1]at m1;cases m1;refine aG.U7 (pre:=[]) (r:=rp) (o:=0) (h':=n) (gD hT hd) (iT hE hz) g7 m2 p2 g5 e1 g6 ?_ q6 q3 q7 ?_
 . rcases Be hS hhi with⟨h1,h2⟩|⟨kk,y,h1,h2⟩
   . exact .inl ⟨h1,by omega⟩
   . exact .inr ⟨kk,y,h1,by rw[h2,q4]⟩
 intro cs' sp' hcs hE';refine⟨b,cp,Y.length,_,jD p2,λν' H' hν hH=>⟨rfl,g7,cs',sp',by rw[hcs],hE'.mono (hH κ),by rw[hcs];exact g6⟩,λν' H' hν hH hn=>⟨b,cp,Y.length,hn,rfl⟩⟩
variable {a b:Operand} {ki kj:IntKind} {p q:Int}
theorem qW{v:Value}(nx:K .z (eM v))(h1:one v=true)(h:∀(e:Env) (w:World),(∀x u,lv (bW L x)=some u->ev e x=u)->aG P o.op o.type (ev e) w λv' w'=>w'=w/\v'=v):cA tb o L K:=
 cA.of (sv:=some (.s (.lf (.v v)))) (LT.look λν H e w _ _ _ hS=>(h e w λx u hx=>(eY hS hx).1).mono λv' w' ⟨g1,g2⟩=>⟨g1,g2,h1⟩) nx
theorem quB{f:Int->Option β}(h:(sdiv ki p q).bind f=some res)(nx:∀z,f z=some res->K .z (eM (.int ki z)))
 (ho:o.op=.binOp .quo t a b u:=by rfl)(ha:lv (bW L a)=some (.int ki p):=by rfl)(hb:lv (bW L b)=some (.int ki q):=by rfl):cA tb o L K:=by
 obtain⟨z,q1,q2⟩:=bind_some h;obtain⟨q3,q4⟩:=Q3 q1;exact qW (nx z q2) rfl λe w f=>by rw[ho];exact aG.quoI (f _ _ ha) (f _ _ hb) q3 q4 ⟨rfl,rfl⟩
theorem um(nx:K .z (eM (.int ki (ki.wrap (p.tdiv q)))))
 (ho:o.op=.binOp .quo t a b u:=by rfl)(ha:lv (bW L a)=some (.int ki p):=by rfl)(hb:lv (bW L b)=some (.int ki q):=by rfl)(h0:¬q=0:=by decide):cA tb o L K:=
 qW nx rfl λe w f=>by rw[ho];exact aG.quoI (f _ _ ha) (f _ _ hb) h0 rfl ⟨rfl,rfl⟩
theorem reB{f:Int->Option β}(h:(srem p q).bind f=some res)(nx:∀z,f z=some res->K .z (eM (.int ki (p.tmod q))))
 (ho:o.op=.binOp .rem t a b u:=by rfl)(ha:lv (bW L a)=some (.int ki p):=by rfl)(hb:lv (bW L b)=some (.int ki q):=by rfl):cA tb o L K:=by
 obtain⟨z,q1,q2⟩:=bind_some h;obtain⟨q3,q4⟩:=UG q1;exact qW (nx z q2) rfl λe w f=>by rw[ho];exact aG.remI (f _ _ ha) (f _ _ hb) q3 ⟨rfl,rfl⟩
theorem reL(nx:K .z (eM (.int ki (p.tmod q))))
 (ho:o.op=.binOp .rem t a b u:=by rfl)(ha:lv (bW L a)=some (.int ki p):=by rfl)(hb:lv (bW L b)=some (.int ki q):=by rfl)(h0:¬q=0:=by decide):cA tb o L K:=
 qW nx rfl λe w f=>by rw[ho];exact aG.remI (f _ _ ha) (f _ _ hb) h0 ⟨rfl,rfl⟩
theorem slL(nx:K .z (eM (.int ki (jx ki p q))))
 (ho:o.op=.binOp .shl t a b u:=by rfl)(ha:lv (bW L a)=some (.int ki p):=by rfl)(hb:lv (bW L b)=some (.int kj q):=by rfl)(h0:¬q<0:=by decide):cA tb o L K:=
 qW nx rfl λe w f=>by rw[ho];exact aG.ishl (f _ _ ha) (f _ _ hb) h0 ⟨rfl,rfl⟩
theorem nP(nx:K .z (eM (.int ki (fL ki p q))))
 (ho:o.op=.binOp .shr t a b u:=by rfl)(ha:lv (bW L a)=some (.int ki p):=by rfl)(hb:lv (bW L b)=some (.int kj q):=by rfl)(h0:¬q<0:=by decide):cA tb o L K:=
 qW nx rfl λe w f=>by rw[ho];exact aG.ishr (f _ _ ha) (f _ _ hb) h0 ⟨rfl,rfl⟩
theorem slB{f:Unit->Option β}(h:(lP (¬q<0)).bind f=some res)(nx:∀z,f z=some res->K .z (eM (.int ki (jx ki p q))))
 (ho:o.op=.binOp .shl t a b u:=by rfl)(ha:lv (bW L a)=some (.int ki p):=by rfl)(hb:lv (bW L b)=some (.int kj q):=by rfl):cA tb o L K:=by
 obtain⟨z,q1,q2⟩:=bind_some h;exact slL (nx z q2) ho ha hb (BX q1)
theorem srB{f:Unit->Option β}(h:(lP (¬q<0)).bind f=some res)(nx:∀z,f z=some res->K .z (eM (.int ki (fL ki p q))))
 (ho:o.op=.binOp .shr t a b u:=by rfl)(ha:lv (bW L a)=some (.int ki p):=by rfl)(hb:lv (bW L b)=some (.int kj q):=by rfl):cA tb o L K:=by
 obtain⟨z,q1,q2⟩:=bind_some h;exact nP (nx z q2) ho ha hb (BX q1)
theorem sdB{f:Unit->Option β}{x y:List UInt8}(h:(lP ((x.length:Int)+y.length<=9223372036854775807)).bind f=some res)(nx:∀z,f z=some res->K .z (eM (.string (s8 (x++y)))))
 (ho:o.op=.binOp .add t a b u:=by rfl)(ha:lv (bW L a)=some (.string (s8 x)):=by rfl)(hb:lv (bW L b)=some (.string (s8 y)):=by rfl):cA tb o L K:=by
 obtain⟨z,q1,q2⟩:=bind_some h;exact qW (nx z q2) rfl λe w f=>by rw[ho];exact aG.sAdd (f _ _ ha) (f _ _ hb) (BX q1) ⟨rfl,rfl⟩
theorem ixS{f:UInt8->Option β}{xs:List UInt8}(h:(idx xs q).bind f=some res)(nx:∀z,f z=some res->K .z (eM (.int .u8 (z.toNat:Int))))
 (ho:o.op=.index t a b:=by rfl)(ha:lv (bW L a)=some (.string (s8 xs)):=by rfl)(hb:lv (bW L b)=some (.int kj q):=by rfl)(hT:cP tb t=some T:=by rfl)(hd:T.d=.string:=by rfl):cA tb o L K:=by
 obtain⟨z,q1,q2⟩:=bind_some h;obtain⟨n,q3,q4⟩:=tV q1;exact qW (nx z q2) rfl λe w f=>by rw[ho];exact aG.Va (gD hT hd) (f _ _ ha) (f _ _ hb) q3 q4 ⟨rfl,rfl⟩
def KN{α:Type}(xs:List α):Pd:=⟨λ_ a=>∃b,a=.bool b/\(b=true->xs=[]),λ_ _ _ _ h=>h,λ_ _ ⟨b,h,_⟩=>by rw[h];rfl⟩
theorem uO{α:Type}{rp:bZ α}{κ:Bool}{xs:List α}(nx:K .z (some (.s (.lf (.pd (KN xs))))))
 (ho:o.op=.binOp .eql t a b u:=by rfl)(ha:bW L a=some (.s (.lf (.ro rp κ xs))):=by rfl)(hb:lv (bW L b)=some (.slice none 0 0):=by rfl)(hT:cP tb t=some T:=by rfl)(hd:T.d=.slice el:=by rfl):cA tb o L K:=by
 refine cA.of (LT.look λν H e w hv ht hO hS=>?_) nx;rw[ho];have hr:Rs rp (H κ) (ev e a) xs:=du hS ha;refine aG.Pf (gD hT hd) rfl (Sl.isSlice hr) (eY hS hb).1 ?_;exact⟨rfl,_,rfl,λhi=>(Sl.P6 hr hi).1⟩
theorem cn{α:Type}{F:Fx}{k:List It}{xs:List α}{c:Operand}{ca cb:Code}(ht:xs=[]->Gs tb F (.code ca::k) (L.kn c true))(hf:Gs tb F (.code cb::k) (L.kn c false))(hc:bW L c=some (.s (.lf (.pd (KN xs)))):=by rfl):jM tb F (.code (.cond c ca cb)::k) L:=by
 refine⟨λe w hs=>?_⟩;have hs':=hs;obtain⟨ν,g1,g2,g3,g4,g5⟩:=hs';obtain⟨bb,q1,q2⟩:∃b,ev e c=.bool b/\(b=true->xs=[]):=du g5 hc;have kn:St F (L.kn c bb) e w:=by
  cases c with
  |tmp t=>
   refine⟨ν,g1,g2,g3,g4,λt' sv ht'=>?_⟩;have ht':(bif Nat.beq t' t then eM (.bool bb)else aT L.bX t')=some sv:=ht';cases hb:Nat.beq t' t with
   |false=>rw[hb]at ht';exact g5 t' sv ht'
   |true=>
    rw[hb]at ht';cases ht';have:=dV hb;subst this;exact⟨q1,rfl⟩
  |_=>exact hs
 cases bb with
 |true=>exact cI.Pj q1 rfl ((Gs.ok (ht (q2 rfl))).ok e w kn)
 |false=>exact cI.JP q1 rfl ((Gs.ok hf).ok e w kn)
end
open Go Go.RowKit Go.X
variable [fq]
theorem MK{H:Hp}{w:World}(hv:Le H (view [] w)):H=vw (λb=>H b≠none) w:=by
 funext b;cases hb:H b with
 |none=>
  cases hw:vw (λb=>H b≠none) w b with
  |none=>rfl
  |some o=>exact bV hb (Ce hw).1
 |some o=>exact(Ed (by rw[hb];simp) (zH (hv b o hb))).symm
section
variable {P:Program} {tb:List (dU P)} {L:SS} {o:Oper} {K:Ef->Option Sv->Prop} {β:Type} {res:β} {t u el:TypeId} {x y a b c d:Operand} {T E:dU P} {kk:IntKind}
theorem clR{α:Type}{rp:bZ α}{κ:Bool}{xs:List α}{k1 k2:IntKind}{y':Operand}(nx:K .z (some (.s (.lf (.cp rp κ xs)))))
 (ho:o.op=.slice t x none (some y) (some y'):=by rfl)(hx:bW L x=some (.s (.lf (.ro rp κ xs))):=by rfl)(hy:lv (bW L y)=some (.int k1 (xs.length:Int)):=by rfl)(hy':lv (bW L y')=some (.int k2 (xs.length:Int)):=by rfl)(hT:cP tb t=some T:=by rfl)(hd:T.d=.slice el:=by rfl)(hE:cP tb el=some E:=by rfl)(hz:E.sz=rp.sz:=by rfl):cA tb o L K:=by
 refine cA.of (LT.look λν H e w hv ht hO hS=>?_) nx;rw[ho];have hr:Rs rp (H κ) (ev e x) xs:=du hS hx;exact aG.UK (n:=xs.length) (gD hT hd) (iT hE hz) rfl hr (eY hS hy).1 (eY hS hy').1 rfl rfl λv' h1 h2=>⟨rfl,h1,h2⟩
theorem apC{α:Type}(κn:Bool){rp:bZ α}{κ κs:Bool}{xs ys:List α}{bs:Nat}{f:List α->Option β}{l:Lf}(h:(cZ bs xs ys).bind f=some res)
 (nx:∀Y,f Y=some res->K ⟨1,[(L.nx,some (.row rp κn Y))],[]⟩ (some (.s (.lf (.own L.nx)))))
 (ho:o.op=.call {callee:=.builtin .append,args:=#[a,c],argTypes:=#[t,t]}:=by rfl) (ha:bW L a=some (.s (.lf (.cp rp κ xs))):=by rfl) (hc:bW L c=some (.s (.lf l)):=by rfl)
 (hs:vH L rp κs ys l:=by first|exact .ro|exact .own rfl) (hp:Nat.blt 0 ys.length=true:=by rfl) (hT:cP tb t=some T:=by rfl) (hd:T.d=.slice el:=by rfl) (hE:cP tb el=some E:=by rfl) (hz:E.sz=rp.sz:=by rfl) (hb:E.qV=bs:=by rfl) (hq:Nat.beq E.z.cells.size rp.sz=true:=by rfl) (hr:(rp.sz==0)=false:=by rfl)
 (hk:cx κ κn=true:=by rfl) (hks:cx κs κn=true\/v7 rp:=by first|exact .inl rfl|exact .inr λ_ _ _ _ h=>h):cA tb o L K:=by
 obtain⟨Y,q1,q2⟩:=bind_some h;obtain⟨q3,q4,q5⟩:=BL q1;refine cA.of (LT.nw λν H e w hv ht hO hS=>?_) (nx Y q2);rw[ho];obtain⟨ds,d1,d2⟩:=Fg (κn:=κn) hv ht hO hs hks (du hS hc);obtain⟨hR,hcl⟩:Rs rp (H κ) (ev e a) xs/\zi (ev e a):=du hS ha;have hR:=Rs.mono hR (wE ht hk);subst hb;have e1:=MK (hv κn);rw[e1]at hR d2;refine aG.Nq (gD hT hd) (iT hE hz) (dV hq) hr rfl rfl hR hcl d1 d2 (by simpa using hp) q3 q4 q5 (oc (w:=w)) λb cap sp cs w' h1 h2 h3 h4=>?_;rw[<-e1]at h1;exact⟨some b,cap,Y.length,_,h3,λν' H' hν hH=>⟨rfl,hr,cs,sp,rfl,h1.mono (hH κn),h2⟩,λν' H' hν hH hn=>⟨some b,cap,Y.length,hn,rfl⟩⟩
theorem cutG{α:Type}{rp:bZ α}{κ:Bool}{xs:List α}{lo h':Int}{f:Unit->Option β}{sz j:Nat}{hi:Option Operand}(h:(ov xs lo h').bind f=some res)(nx:∀u,f u=some res->K .z (some (.s (.lf (.sg j sz lo h')))))
 (ho:o.op=.slice t x (some y) hi none:=by rfl)(hx:bW L x=some (.s (.lf (.own j))):=by rfl)(hj:aT L.bI j=some (.row rp κ xs):=by rfl)(hlo:lv (bW L y)=some (.int kk lo):=by rfl)(hhi:vE L (xs.length:Int) hi=some h':=by rfl)(hT:cP tb t=some T:=by rfl)(hd:T.d=.slice el:=by rfl)(hE:cP tb el=some E:=by rfl)(hz:E.sz=rp.sz:=by rfl)(hs:rp.sz=sz:=by rfl):cA tb o L K:=by
 obtain⟨u,q1,q2⟩:=bind_some h;obtain⟨m,n,q3,q4,q5,q6⟩:=IT q1;refine cA.of (LT.look λν H e w hv ht hO hS=>?_) (nx u q2);rw[ho];obtain⟨b,c,cs,sp,g1,g4,g5,g6,g7⟩:=vq hO hj;obtain⟨b',c',n',m1,m2⟩:(Lf.own j).R ν H (ev e x):=du hS hx;rw[g1]at m1;cases m1;obtain⟨b,rfl⟩:=BN g4 g5 g7 (cy (CW q5 q6));refine aG.Pw (r:=rp) (l:=m) (h':=n) (gD hT hd) (iT hE hz) g7 m2 rfl g5 g6 (.inr ⟨kk,y,rfl,by rw[(eY hS hlo).1,q3]⟩) ?_ q5 q6 ?_
 . rcases Be hS hhi with⟨h1,h2⟩|⟨kk,y,h1,h2⟩
   . exact .inl ⟨h1,by omega⟩
   . exact .inr ⟨kk,y,h1,by rw[h2,q4]⟩
 . exact⟨rfl,b,_,m,n,_,g1,q3,q4,C2 q5,by rw[hs,fb]⟩
theorem ixG{α:Type}{rp:bZ α}{κ:Bool}{xs:List α}{i lo h':Int}{f:α->Option β}{sz j:Nat}(h:((lP (0<=i/\i<h'-lo)).bind λ_=>(idx xs (lo+i)).bind f)=some res)(nx:∀a,f a=some res->K .z (some (.pw j rp xs a (lo+i) 0)))
 (ho:o.op=.indexAddr t x y:=by rfl)(hx:bW L x=some (.s (.lf (.sg j sz lo h'))):=by rfl)(hj:aT L.bI j=some (.row rp κ xs):=by rfl)(hy:lv (bW L y)=some (.int kk i):=by rfl)(hT:cP tb t=some T:=by rfl)(hd:T.d=.slice el:=by rfl)(hE:cP tb el=some E:=by rfl)(hz:E.sz=rp.sz:=by rfl)(hs:rp.sz=sz:=by rfl):cA tb o L K:=by
 obtain⟨u,q0,q2⟩:=bind_some h;replace q0:=BX q0;obtain⟨a,q1,q2⟩:=bind_some q2;obtain⟨n,q3,q4⟩:=tV q1;refine cA.of (LT.look λν H e w hv ht hO hS=>?_) (nx a q2);rw[ho];obtain⟨b,c,cs,sp,g1,g4,g5,g6,g7⟩:=vq hO hj;obtain⟨b',c',m,k,cp,m1,m2,m3,m4,m5⟩:(Lf.sg j sz lo h').R ν H (ev e x):=du hS hx;rw[g1]at m1;cases m1;subst hs;refine aG.indexAddr (i:=i.toNat) (gD hT hd) (iT hE hz) m5 (by rw[(eY hS hy).1];congr 1;omega) (by omega) rfl ⟨rfl,b',_,n,g1,q3,q4,?_⟩;rw[<-ig,show n=m+i.toNat by omega];rfl
theorem mkM{Q V:Type}(dk:DecidableEq Q)(kf:Q->Value)(vf:V->Value)(nx:K ⟨1,[(L.nx,some (.map dk kf vf []))],[]⟩ (some (.s (.lf (.mp L.nx)))))(ho:o.op=.makeMap t none:=by rfl):cA tb o L K:=by
 refine cA.of (LT.nw λν H e w hv ht hO hS=>?_) nx;rw[ho];exact aG.makeMap (kf:=kf) (vf:=vf) (oc (w:=w)) λb w' h1 h2=>⟨some b,0,0,_,h1,λ_ _ _ _=>rfl,λν' H' hν hH hn=>⟨b,(0,0),hn,rfl⟩⟩
section
variable {Q V:Type} {dk:DecidableEq Q} {kf:Q->Value} {vf:V->Value} {m:List (Q×V)} {i:Nat} {kt et:TypeId}
theorem luM(z:V)(q:Q)(hk:l8 P kt kf)(h1:∀v,one (vf v)=true)(nx:K .z (some (.fP [.lf (.v (vf (fU m q z).1)),.lf (.v (.bool (fU m q z).2))])))
 (ho:o.op=.lookup t a c true:=by rfl)(ha:bW L a=some (.s (.lf (.mp i))):=by rfl)(hi:aT L.bI i=some (.map dk kf vf m):=by rfl)(hc:lv (bW L c)=some (kf q):=by rfl)(hT:cP tb t=some T:=by rfl)(hd:T.d=.map kt et:=by rfl)(hE:cP tb et=some E:=by rfl)(hz:E.z=vf z:=by rfl):cA tb o L K:=by
 refine cA.of (LT.look λν H e w hv ht hO hS=>?_) nx;rw[ho];obtain⟨b,c',g1,g2⟩:(Lf.mp i).R ν H (ev e a):=du hS ha;obtain⟨b',c'',n,k,q1,q2,q3⟩:=hO i _ hi;rw[g1]at q1;cases q1;have q3:k=kF kf vf m:=q3;subst q3;exact aG.look (z:=z) hk (gD hT hd) (hz▸gu hE) g2 q2 (eY hS hc).1 ⟨rfl,_,rfl,_,_,rfl,⟨rfl,h1 _⟩,_,_,rfl,⟨rfl,rfl⟩,rfl⟩
theorem puM(q:Q)(v:V)(hk:l8 P kt kf)(nx:K ⟨0,[(i,some (.map dk kf vf (kN m q v)))],[]⟩ none)
 (ho:o.op=.mapUpdate t a c d:=by rfl)(ha:bW L a=some (.s (.lf (.mp i))):=by rfl)(hi:aT L.bI i=some (.map dk kf vf m):=by rfl)(hc:lv (bW L c)=some (kf q):=by rfl)(hd':lv (bW L d)=some (vf v):=by rfl)(hT:cP tb t=some T:=by rfl)(hd:T.d=.map kt et:=by rfl):cA tb o L K:=by
 refine cA.of (LT.md hi λν H e w b c0 n k0 hv ht hO hS p1 p2 p3=>?_) nx;rw[ho];obtain⟨b',c',g1,g2⟩:(Lf.mp i).R ν H (ev e a):=du hS ha;rw[p1]at g1;cases g1;have p3:k0=kF kf vf m:=p3;subst p3;exact aG.Rd hk (gD hT hd) g2 (eY hS hc).1 (eY hS hd').1 (jD p2) 0 rfl rfl λw' h1 h2=>⟨_,h1,λ_ _=>rfl⟩
end
def pU(κ:Bool)(l:List Lf):Pd:=⟨λH a=>∃b o vs,a=.pointer (some ⟨b,o,none⟩)/\At (H κ) b o vs/\dd tA H l vs,λH H' a hH ⟨b,o,vs,h1,h2,h3⟩=>⟨b,o,vs,h1,h2.mono (hH κ),h3.mono (fk.refl _) hH⟩,λH a ⟨b,o,vs,h1,_⟩=>by rw[h1];rfl⟩
def iR(P:Program){α ρ:Type}(az:α->List S1)(rs:ρ->List S1)(f:α->Option ρ):Pd:=
  ⟨λH v=>∃fid caps,v=.func (.func fid) #[] (List.toArray caps)/\Enters P fid/\∀(X:Nat->Prop) (w:World) (H':Bool->Hp) (ν:Nu) (x:α) (r:ρ) (l:List Value),(∀κ,Le (H κ) (H' κ))->(∀k,ν k=none)->cY X w H' ν (λ_=>none) w->f x=some r->ee ν (HF X w H' ν (λ_=>none) w) (az x) l->
      Calls P fid (l++caps).toArray w (λe w'=>∃vs,e=.returned (jC vs)/\yX X w H' ν 0 [] (rs r) vs w'),
   λH H' v hH ⟨fid,caps,h1,h2,h3⟩=>⟨fid,caps,h1,h2,λX w H2 ν x r l hle=>h3 X w H2 ν x r l λκ=>Le.trans (hH κ) (hle κ)⟩,
   λH v ⟨fid,caps,h1,_⟩=>by rw[h1];rfl⟩
theorem si(t:Nat){κ:Bool}{l:List Lf}(ht:aT L.bX t=some (.s (.lf (.pd (pU κ l)))):=by rfl):Vw L ⟨0,[],[(t,some (.pr κ l 0))]⟩:=by
 refine⟨λX w0 H0 ν oF e w ho hn hS hs=>⟨ν,ja.refl,hS,λ_=>Le.refl _,λt' sv h=>?_⟩⟩;have h:(bif Nat.beq t' t then some (Sv.pr κ l 0)else none)=some sv:=h;cases hb:Nat.beq t' t with
 |false=>rw[hb]at h;cases h
 |true=>
  rw[hb]at h;cases h;have:=dV hb;subst this;obtain⟨b,o,vs,h1,h2,h3⟩:=hs _ _ ht;exact⟨b,o,vs,h1,h2,h3.mono (λi x h=>(by cases h)) λ_=>Le.refl _⟩
theorem tx(j t:Nat){l:List Lf}(hj:aT L.bI j=some (.box l):=by rfl)(ht:aT L.bX t=some (.s (.lf (.ptr j 0))):=by rfl):Vw L ⟨0,[(j,none)],[(t,some (.pr true l 0))]⟩:=by
 refine⟨λX w0 H0 ν oF e w ho hn hS hs=>?_⟩;obtain⟨b,c,n,kk,q1,q2,vs,e2,e3⟩:=hS.de j _ (ho j _ hj);obtain⟨b',c',r1,r2⟩:(Lf.ptr j 0).R ν (HF X w0 H0 ν oF w) (e t):=hs _ _ ht;rw[q1]at r1;cases r1;obtain⟨g1,g2⟩:=hS.go (T:=[j]) (O:=[some b']) (new:=[]) (oF':=bQ [(j,none)] oF) (ν':=ν) (λb' hb=>by simp only[cG]at hb;exact⟨j,by simp,_,ho j _ hj,by rw[eT q1,hb]⟩) ((jD q2).drop 0).1 (fk.refl ν) rfl (by simp)
  (λi o h=>by
   rcases j4 h with h|⟨h,h2⟩
   . simp at h
   . refine .inl ⟨h,λhm=>?_⟩;simp only[cG]at hm;subst hm;simp[cC]at h2)
  (λ_ x hx=>by cases hx) (λx hx=>by cases hx) ⟨rfl,rfl⟩
 refine⟨ν,ja.refl,g1,g2,λt' sv h=>?_⟩;have h:(bif Nat.beq t' t then some (Sv.pr true l 0)else none)=some sv:=h;cases hb:Nat.beq t' t with
 |false=>rw[hb]at h;cases h
 |true=>
  rw[hb]at h;cases h;have:=dV hb;subst this;have hno:¬Ow ν (bQ [(j,none)] oF) b':=by
   rintro⟨i,ob,r2,r3⟩;rcases j4 r2 with h|⟨h,h2⟩
   . simp at h
   . have:=hS.gR i j ob _ b' h (ho j _ hj) r3 (.inl (eT q1));subst this;simp[cC]at h2
  subst e2;exact⟨b',0,vs,r2,pO q2 λq hq=>lL (hS.fresh j _ b' (ho j _ hj) (.inl (eT q1))) hno (uQ q2 hq),e3.mono (fk.refl ν) g2⟩
theorem ee.append{ν:Nu}{H:Bool->Hp}:∀{l l':List S1} {a a':List Value},ee ν H l a->ee ν H l' a'->ee ν H (l++l') (a++a')
 |[],_,_,_,h,h'=>by rw[show _=[] from h];exact h'
 |_::_,_,_,_,⟨a,az,h1,h2,h3⟩,h'=>by rw[h1];exact⟨a,az++_,rfl,h2,h3.append h'⟩
def rY(L:SS):List Operand->Option (List S1)
 |[]=>some []
 |x::r=>match bW L x with
  |some (.pr κ l 0)=>match l.all okV&&rY.isT κ with
   |true=>match rY L r with
    |some y=>some (.lf (.pd (pU false (l.map wf)))::y)
    |none=>none
   |false=>none
  |_=>none
where
 isT:Bool->Bool:=λ_=>true
 wf:Lf->Lf
  |.ro r _ xs=>.ro r false xs
  |l=>l
 okV:Lf->Bool
  |.v _=>true
  |.ro _ _ _=>true
  |.pd _=>true
  |_=>false
theorem Ll{ν ν':Nu}{H:Bool->Hp}:∀{l:List Lf} {vs:List Value},l.all rY.okV=true->dd ν H l vs->dd ν' H l vs
 |[],_,_,h=>h
 |x::r,_,hk,⟨a,az,h1,h2,h3⟩=>by
  simp only[C7,fZ]at hk;refine⟨a,az,h1,?_,Ll hk.2 h3⟩;cases x<;>first|exact h2|cases hk.1
theorem wf_R{ν:Nu}{H:Bool->Hp}(ht:Le (H true) (H false)):∀{l:List Lf} {vs:List Value},dd ν H l vs->dd ν H (l.map rY.wf) vs
 |[],_,h=>h
 |x::r,_,⟨a,az,h1,h2,h3⟩=>by
  refine⟨a,az,h1,?_,wf_R ht h3⟩;cases x with
  |ro rp κ xs=>cases κ with
   |true=>exact Rs.mono h2 ht
   |false=>exact h2
  |_=>exact h2
theorem LD{ν:Nu}{H:Bool->Hp}{e:Env}(ht:Le (H true) (H false))(hS:dI ν H (aT L.bX) e):∀{xs:List Operand} {ss:List S1},rY L xs=some ss->ee tA H ss (xs.map (ev e))
 |[],_,h=>by cases h;rfl
 |x::r,_,h=>by
  simp only[rY]at h;split at h
  . rename_i κ l hx;split at h
    . rename_i hk;split at h
      . rename_i y hy;cases h;simp only[fZ]at hk;obtain⟨b,o,vs,h1,h2,h3⟩:=du hS hx;refine⟨_,_,rfl,⟨b,o,vs,h1,?_,wf_R ht (Ll hk.1 h3)⟩,LD ht hS hy⟩;cases κ with
        |true=>exact h2.mono ht
        |false=>exact h2
      . cases h
    . cases h
  . cases h
theorem mkF{α ρ:Type}(az:α->List S1)(rs:ρ->List S1)(f:α->Option ρ){fid:FuncId}{caps:List Operand}{cs:List S1}(c:∀x r,f x=some r->Cx P fid (az x++cs) [] [] (rs r))(he:Enters P fid)(nx:K .z (some (.s (.lf (.pd (iR P az rs f))))))
 (ho:o.op=.makeFunc (.func fid) #[] caps.toArray:=by rfl) (hc:rY L caps=some cs:=by rfl):cA tb o L K:=by
 refine cA.of (LT.look λν H e w hv ht hO hS=>?_) nx;rw[ho];refine aG.makeFunc rfl ⟨rfl,fid,caps.map (ev e),rfl,he,?_⟩;intro X w1 H' ν1 x r l hle hν hSt hf hl;have hcap:=LD ht hS hc;have hin:∀κ,Le (H κ) (HF X w1 H' ν1 (λ_=>none) w1 κ):=λκ b o hb=>by
  have h1:=hle κ b o hb;have h2:H' false b=some o:=by
   cases κ with
   |true=>exact hSt.h0 b o h1
   |false=>exact h1
  obtain⟨g1,g2,g3⟩:=hSt.nh b o h2;rw[om g1 g3];exact h1
 have hno:aT (eQ 0 ([]:List Ob))=λ_=>none:=by funext t;rfl
 have:=(c x r hf).2 X w1 H' ν1 (l++caps.map (ev e)) (λk _=>hν k) (by rw[hno];exact hSt) (by
  rw[hno];exact hl.append (hcap.mono (λi x h=>(by cases h)) hin))
 exact this
theorem cvl{α ρ:Type}{az:α->List S1}{rs:ρ->List S1}{g:α->Option ρ}(x:α){f:ρ->Option β}{fo:Operand}{args:List Operand}{ats:Array TypeId}{ls:List S1}(h:(g x).bind f=some res)(nx:∀r,f r=some res->K .z (some (pA ((rs r).map (lj none [] L.nx)))))
 (ho:o.op=.call {callee:=.value fo,args:=args.toArray,argTypes:=ats}:=by rfl)(hf:bW L fo=some (.s (.lf (.pd (iR P az rs g)))):=by rfl)(ha:oQ L args=some ls:=by rfl)(hl:kH none (aT L.bI) [] ls (az x)=some (az x):=by rfl)(h2:∀r,(rs r).all (pK none 0)=true:=by intro r;rfl):cA tb o L K:=by
 obtain⟨r,q1,q2⟩:=bind_some h;refine cA.of ⟨λX w0 H0 ν oF e w ho' hν hS hs=>?_⟩ (nx r q2);rw[ho];obtain⟨fid,caps,e1,he,hcall⟩:=du hs hf;have hI:∀i∈([]:List Nat),∃ob,oF i=some ob:=λi hi=>by cases hi
 have hb:jw none oF [] [] []=some []:=rfl;have hin:=hS.Ax (md:=none) (is:=[]) rfl hb;have e0:aT (eQ 0 ([]:List Ob))=λ_=>none:=by funext t;rfl
 rw[e0]at hin;have hargs:=y8 (md:=none) (is:=[]) (νc:=ez ν []) (cF:=λ_=>none) hS hI (re hS hI) (G8 ho' hl) (A9 hs ha);have hc:=hcall (Xc ν []) w _ (ez ν []) x r (args.map (ev e)) (λκ=>qk (md:=none) hS hI (by cases κ<;>rfl)) (λk=>rfl) hin q1 hargs;have hfe:ev e fo=.func (.func fid) (List.toArray []) caps.toArray:=e1;refine aG.Ii he hfe (by simp) hc ?_;rintro en w' ⟨vs,rfl,ν',hp,hE,hr⟩;refine⟨jC vs,rfl,Cg none [] 0 L.nx hS hI rfl rfl (h2 r) rfl hν (λk hk=>bV hk (NV k)) hE hr⟩
theorem wy{α ρ:Type}{az:α->List S1}{rs:ρ->List S1}{g:α->Option ρ}(x:α){f:ρ->Option β}{fo:Operand}{args:List Operand}{ats:Array TypeId}{ls:List S1}(h:(g x).bind f=some res)(nx:∀r,f r=some res->K .z (some (pA ((rs r).map (lj (some false) [] L.nx)))))
 (ho:o.op=.call {callee:=.value fo,args:=args.toArray,argTypes:=ats}:=by rfl)(hf:bW L fo=some (.s (.lf (.pd (iR P az rs g)))):=by rfl)(ha:oQ L args=some ls:=by rfl)(hl:kH (some false) (aT L.bI) [] ls (az x)=some (az x):=by rfl)(h2:∀r,(rs r).all (pK (some false) 0)=true:=by intro r;rfl):cA tb o L K:=by
 obtain⟨r,q1,q2⟩:=bind_some h;refine cA.of ⟨λX w0 H0 ν oF e w ho' hν hS hs=>?_⟩ (nx r q2);rw[ho];obtain⟨fid,caps,e1,he,hcall⟩:=du hs hf;have hI:∀i∈([]:List Nat),∃ob,oF i=some ob:=λi hi=>by cases hi
 have hb:jw (some false) oF [] [] []=some []:=rfl;have hin:=hS.Ax (md:=some false) (is:=[]) rfl hb;have e0:aT (eQ 0 ([]:List Ob))=λ_=>none:=by funext t;rfl
 rw[e0]at hin;have hargs:=y8 (md:=some false) (is:=[]) (νc:=ez ν []) (cF:=λ_=>none) hS hI (re hS hI) (G8 ho' hl) (A9 hs ha);have hc:=hcall (Xc ν []) w _ (ez ν []) x r (args.map (ev e)) (λκ=>qk (md:=some false) hS hI (by cases κ<;>rfl)) (λk=>rfl) hin q1 hargs;have hfe:ev e fo=.func (.func fid) (List.toArray []) caps.toArray:=e1;refine aG.Ii he hfe (by simp) hc ?_;rintro en w' ⟨vs,rfl,ν',hp,hE,hr⟩;refine⟨jC vs,rfl,Cg (some false) [] 0 L.nx hS hI rfl rfl (h2 r) rfl hν (λk hk=>bV hk (NV k)) hE hr⟩
inductive pS (P:Program):List S1->List S1->Prop
 |n:pS P [] []
 |s {a:S1} {l l':List S1} (h:pS P l l'):pS P (a::l) (a::l')
 |f {α ρ:Type} (az:α->List S1) (rs:ρ->List S1) (f:α->Option ρ) {fid:FuncId} (c:∀x r,f x=some r->Cx P fid (az x) [] [] (rs r)) (he:Enters P fid) {l l':List S1} (h:pS P l l'):pS P (.lf (.v (.func (.func fid) #[] #[]))::l) (.lf (.pd (iR P az rs f))::l')
theorem pS.ok{ν:Nu}{H:Bool->Hp}:∀{l l':List S1} {v:List Value},pS P l l'->ee ν H l v->ee ν H l' v
  |_,_,_,.n,h=>h
  |_,_,_,.s k,⟨a,az,h1,h2,h3⟩=>⟨a,az,h1,h2,k.ok h3⟩
  |_,_,_,.f az rs g c he k,⟨a,l,h1,h2,h3⟩=>⟨a,l,h1,⟨_,[],h2.1,he,λX w H' ν1 x r l2 hle hν hSt hf hl=>by
      have hno:aT (eQ 0 ([]:List Ob))=λ_=>none:=by funext t;rfl
      have:=(c x r hf).2 X w H' ν1 l2 (λk _=>hν k) (by rw[hno];exact hSt) (by rw[hno];exact hl);rw[mT];exact this⟩,k.ok h3⟩
theorem clF(md:Option Bool)(is:List Nat)(nn:Nat){ρ:Type}{g:Option ρ}{f:ρ->Option β}{fid:FuncId}{args:List Operand}{ats:Array TypeId}{l0 ls az:List S1}{ib:List Ob}{out:ρ->List (Nat×Option Ob)}{rs:ρ->List S1}
 (h:g.bind f=some res)(c:∀r,g=some r->Cx P fid az ib (out r) (rs r))(hc:pS P l0 ls)(nx:∀r,f r=some res->K ⟨nn,fw md is L.nx (out r)++iz is,[]⟩ (some (pA ((rs r).map (lj md is L.nx)))))
 (ho:o.op=.call {callee:=.value (.func fid),args:=args.toArray,argTypes:=ats}:=by rfl)(ha:oQ L args=some l0:=by rfl)(hl:kH md (aT L.bI) is ls az=some az:=by rfl)(hb:jw md (aT L.bI) is is ib=some ib:=by rfl)(hn:gn is=true:=by rfl)
 (h1:∀r,oC md (is.length+nn) (out r)=true:=by intro r;rfl)(h2:∀r,(rs r).all (pK md (is.length+nn))=true:=by intro r;rfl)(h3:∀r,gn ((out r).map (·.1))=true:=by intro r;rfl):cA tb o L K:=by
 obtain⟨r,q1,q2⟩:=bind_some h;refine cA.of ?_ (nx r q2);rw[ho];exact LC md is nn (c r q1) ha (λ_ _ _ h=>hc.ok h) hl hb hn (h1 r) (h2 r) (h3 r)
theorem Vw.comp{a b:Ef}(v:Vw L a)(v2:Vw (L.l5 a) b):Vw L (a.comp b):=by
 refine⟨λX w0 H0 ν oF e w ho hn hS hs=>?_⟩;obtain⟨ν1,g1,g2,g3,g4⟩:=v.ok X w0 H0 ν oF e w ho (λk h1 h2=>hn k h1 (by show k<L.nx+(a.n+b.n);omega)) hS hs;have hle:=g1.le (λk h1 h2=>hn k h1 (by show k<L.nx+(a.n+b.n);omega));obtain⟨ν2,q1,q2,q3,q4⟩:=v2.ok X w0 H0 ν1 (bQ a.up oF) e w (by rw[pF];exact Lw ho) (λk h1 h2=>by
  have h1:L.nx+a.n<=k:=h1;have h2:k<L.nx+a.n+b.n:=h2;rw[g1 k (.inr h1)];exact hn k (by omega) (by show k<L.nx+(a.n+b.n);omega)) g2 (by rw[sQ];exact(hs.mono hle g3).ap g4)
 rw[<-pf]at q2 q3 q4;have hle2:fk ν1 ν2:=q1.le (λk h1 h2=>by
  have h1:L.nx+a.n<=k:=h1;have h2:k<L.nx+a.n+b.n:=h2;rw[g1 k (.inr h1)];exact hn k (by omega) (by show k<L.nx+(a.n+b.n);omega))
 refine⟨ν2,λk hk=>?_,q2,λκ=>Le.trans (g3 κ) (q3 κ),?_⟩
 . have hk:k<L.nx\/L.nx+(a.n+b.n)<=k:=hk;rw[q1 k (by show k<L.nx+a.n\/L.nx+a.n+b.n<=k;omega),g1 k (by omega)]
 . have e1:aT (a.comp b).sl=bQ b.sl (aT a.sl):=by funext t;exact qK _ _ _
   rw[e1];exact(g4.mono hle2 q3).ap q4
theorem iP(tb:List (dU P)){f:FuncId}{fn:Func}{c:Code}{rl:List ResultVar}{n:Nat}{az rs:List S1}{ib:List Ob}{out:List (Nat×Option Ob)}{m:Nat}{a:Ef}(v:Vw ⟨m,eQ 0 ib,pJ 0 az⟩ a)(en:Enters P f)(hf:P.funcs[f]?=some fn)
 (h:∀X w H ν,Gs tb ⟨n,QR P rl X w H ν m out rs,X,w,H,m,ν⟩ [.code c] ((⟨m,eQ 0 ib,pJ 0 az⟩:SS).l5 a))(hm:ib.length=m:=by rfl)(hb:fn.body=some c:=by rfl)(hn:fn.ntmps=n:=by rfl)(hr:fn.results=rl.toArray:=by rfl)(hl:Nat.ble az.length n=true:=by rfl):Cx P f az ib out rs:=by
 subst hm;refine⟨en,λX w H ν l hν hS hl'=>?_⟩;refine KM hf hb hn hr (by rw[hl'.length];exact kR hl) ?_;have h0:St ⟨n,QR P rl X w H ν ib.length out rs,X,w,H,ib.length,ν⟩ ⟨ib.length,eQ 0 ib,pJ 0 az⟩ (kU l) w:=⟨ν,hν,bO _,λ_ _=>rfl,hS,AT 0 hl' (λi v hi=>by rw[fb];simp[kU,hi])⟩;refine((Gs.ok (h X w H ν)).ok _ _ (v.st h0)).mono ?_;rintro e w' ⟨vs,h1,h2⟩;exact⟨vs,h1,vs,rfl,h2⟩
theorem jS{α:Type}{rp:bZ α}{κ:Bool}{xs:List α}{i:Int}{f:α->Option β}{j:Nat}(h:(idx xs i).bind f=some res)(nx:∀a,idx xs i=some a->f a=some res->K .z (some (.pw j rp xs a i 0)))
 (ho:o.op=.indexAddr t x y:=by rfl)(hx:bW L x=some (.s (.lf (.own j))):=by rfl)(hj:aT L.bI j=some (.row rp κ xs):=by rfl)(hy:lv (bW L y)=some (.int kk i):=by rfl)(hT:cP tb t=some T:=by rfl)(hd:T.d=.slice el:=by rfl)(hE:cP tb el=some E:=by rfl)(hz:E.sz=rp.sz:=by rfl):cA tb o L K:=by
 obtain⟨a,q1,q2⟩:=bind_some h;obtain⟨n,q3,q4⟩:=tV q1;refine cA.of (LT.look λν H e w hv ht hO hS=>?_) (nx a q1 q2);rw[ho];obtain⟨b,c,cs,sp,g1,g4,g5,g6,g7⟩:=vq hO hj;obtain⟨b',c',n',m1,m2⟩:(Lf.own j).R ν H (ev e x):=du hS hx;rw[g1]at m1;cases m1;obtain⟨b,rfl⟩:=BN g4 g5 g7 q4;exact aG.DE (r:=rp) (q:=n*rp.sz+0) (gD hT hd) (iT hE hz) m2 rfl (eY hS hy).1 q3 (ep.1 q4).1 (by omega) ⟨rfl,b,_,n,g1,q3,q4,rfl⟩
end
open Go Go.RowKit Go.X
variable [fq]
theorem TQ{P:Program}{f:FuncId}{az rs:List S1}(c:Cn P f az [] rs){W:World}{l:List Value}(h:ee tA (λ_=>HW W) az l)(hT:yC λ_=>HW W):
 Calls P f l.toArray W (λe w'=>∃vs ν' H',e=.returned (jC vs)/\Ext W w'/\ee ν' H' rs vs):=by
 have hno:aT (eQ 0 ([]:List Ob))=λ_=>none:=by funext t;rfl
 have h0:∀b o,HW W b=some o->b<W.heap.size/\W.heap[b]?=some o/\¬(λ_:Nat=>False) b:=λb o hb=>by
  have h1:=(Ce hb).2;exact⟨kK h1,h1,λh=>h⟩
 have hS:cY (λ_=>False) W (λ_=>HW W) tA (λ_=>none) W:=
  ⟨rfl,rfl,rfl,bO _,λ_ _ _=>rfl,Le.refl _,h0,hT,λi ob hi=>by(cases hi),λi ob b hi=>by(cases hi),λi j oi oj b hi=>by(cases hi),λi ob hi=>by(cases hi)⟩
 have hle:∀κ,Le (HW W) (HF (λ_=>False) W (λ_=>HW W) tA (λ_=>none) W κ):=λκ b o hb=>by
  obtain⟨g1,g2,g3⟩:=h0 b o hb;rw[om g1 g3];exact hb
 refine(c.2 (λ_=>False) W (λ_=>HW W) tA l (λ_ _=>rfl) (by rw[hno];exact hS) (by rw[hno];exact h.mono (λi x hx=>by(cases hx)) hle)).mono ?_;rintro e w' ⟨vs,rfl,ν',_,hE,hr⟩;exact⟨vs,ν',_,rfl,⟨hE.os,hE.tape,hE.output,hE.size,λk hk=>hE.keep k hk (λh=>h)⟩,hr⟩
theorem P7{P:Program}{f:FuncId}{az:List S1}{b:Bool}(c:Cn P f az [] [sB b]){W:World}{l:List Value}(h:ee tA (λ_=>HW W) az l)(hT:yC λ_=>HW W):Calls P f l.toArray W (Ret W λv _=>Value.bool b=v/\True):=by
 refine(TQ c h hT).mono ?_;rintro e w' ⟨vs,ν',H',rfl,hE,a,az,rfl,⟨h1,_⟩,rfl⟩;exact⟨_,rfl,hE,h1.symm,trivial⟩
open Go Go.RowKit Go.X
variable [fq]
theorem VU{P:Program}{f:FuncId}{az rs:List S1}(en:Enters P f)(h:∀(ν:Nu) (H:Bool->Hp) (w:World) (l:List Value),ee ν H az l->Calls P f l.toArray w (λe w'=>∃vs,e=.returned (jC vs)/\Ext w w'/\∀(ν':Nu) (H':Bool->Hp),ee ν' H' rs vs)):Cn P f az [] rs:=by
 have hno:aT (eQ 0 ([]:List Ob))=λ_=>none:=by funext t;rfl
 refine⟨en,λX w H ν l hν hS hl=>(h _ _ w l hl).mono ?_⟩;rintro e w' ⟨vs,rfl,hE,hr⟩;rw[hno]at hS;refine⟨vs,rfl,ν,λ_ _=>rfl,?_,hr _ _⟩;rw[hno];exact⟨hE.os,hE.tape,hE.output,hE.size,λk hk _=>hE.block k hk,hS.h0,hS.nh,hS.pI,λi ob hi=>(by cases(show none=some ob from hi)),λi ob b hi=>(by cases(show none=some ob from hi)),λi j oi oj b hi=>(by cases(show none=some oi from hi)),λi ob hi=>(by cases(show none=some ob from hi))⟩
theorem VA{P:Program}{f:FuncId}{az rs:List S1}(en:Enters P f)(h:∀(ν:Nu) (H:Bool->Hp) (w:World) (l:List Value),(∀κ,Le (H κ) (view [] w))->ee ν H az l->Calls P f l.toArray w (λe w'=>∃vs,e=.returned (jC vs)/\Ext w w'/\∀(ν':Nu) (H':Bool->Hp),ee ν' H' rs vs)):Cn P f az [] rs:=by
 have hno:aT (eQ 0 ([]:List Ob))=λ_=>none:=by funext t;rfl
 refine⟨en,λX w H ν l hν hS hl=>(h _ _ w l (λκ=>hS.view κ) hl).mono ?_⟩;rintro e w' ⟨vs,rfl,hE,hr⟩;rw[hno]at hS;refine⟨vs,rfl,ν,λ_ _=>rfl,?_,hr _ _⟩;rw[hno];exact⟨hE.os,hE.tape,hE.output,hE.size,λk hk _=>hE.block k hk,hS.h0,hS.nh,hS.pI,λi ob hi=>(by cases(show none=some ob from hi)),λi ob b hi=>(by cases(show none=some ob from hi)),λi j oi oj b hi=>(by cases(show none=some oi from hi)),λi ob hi=>(by cases(show none=some ob from hi))⟩
theorem VR{P:Program}{f:FuncId}{az rs:List S1}(en:Enters P f)(h:∀(ν:Nu) (H:Bool->Hp) (w:World) (l:List Value),(∀g∈fq.l,∃o,w.heap[g]?=some o/\fq.p g o)->ee ν H az l->Calls P f l.toArray w (λe w'=>∃vs,e=.returned (jC vs)/\Ext w w'/\∀(ν':Nu) (H':Bool->Hp),ee ν' H' rs vs)):Cn P f az [] rs:=by
 have hno:aT (eQ 0 ([]:List Ob))=λ_=>none:=by funext t;rfl
 refine⟨en,λX w H ν l hν hS hl=>(h _ _ w l (λg hg=>?_) hl).mono ?_⟩
 . obtain⟨o,h1,h2⟩:=hS.tab g hg;exact⟨o,(hS.rd h1).1,h2⟩
 rintro e w' ⟨vs,rfl,hE,hr⟩;rw[hno]at hS;refine⟨vs,rfl,ν,λ_ _=>rfl,?_,hr _ _⟩;rw[hno];exact⟨hE.os,hE.tape,hE.output,hE.size,λk hk _=>hE.block k hk,hS.h0,hS.nh,hS.pI,λi ob hi=>(by cases(show none=some ob from hi)),λi ob b hi=>(by cases(show none=some ob from hi)),λi j oi oj b hi=>(by cases(show none=some oi from hi)),λi ob hi=>(by cases(show none=some ob from hi))⟩
open Go Go.RowKit Go.X
variable [fq]
structure DF {α β:Type}(D:Ct α)(f off:Nat)(rf:bZ β)(get:α->List β)(set:α->List β->α):Prop where
 lt:f<D.nf
 lo:off<D.r.sz
 at':∀vs bs cc x,D.R vs bs cc x->∃v b k,vs[off]?=some v/\bs[f]?=some b/\cc[f]?=some k/\DS rf v b k (get x)
 st:∀vs bs cc x v b k ys,D.R vs bs cc x->DS rf v b k ys->D.R (vs.set off v) (bs.set f b) (cc.set f k) (set x ys)
 gs:∀x,set x (get x)=x
 sz:(rf.sz==0)=false
 fr:v7 rf
open Go Go.RowKit Go.X
variable [fq]
section
variable {P:Program} {tb:List (dU P)} {L:SS} {o:Oper} {K:Ef->Option Sv->Prop} {β:Type} {res:β} {t u el:TypeId} {x y a c:Operand} {T E:dU P} {α:Type}
theorem dD(i off j:Nat){l:List Lf}{rp:bZ α}{κ:Bool}{xs:List α}(hi:aT L.bI i=some (.box l):=by rfl)(hj:aT L.bI j=some (.row rp κ xs):=by rfl)(hl:l[off]?=some (.own j):=by rfl)(hne:Nat.beq i L.nx=false:=by rfl)(hij:Nat.beq i j=false:=by rfl):
 Vw L ⟨1,[(i,some (.box (l.set off (.own L.nx)))),(L.nx,some (.row rp κ xs)),(j,none)],[]⟩:=by
 refine⟨λX w0 H0 ν oF e w ho hn hS hs=>?_⟩;have hx:=hn L.nx (bO _) (by show L.nx<L.nx+1;omega);obtain⟨b,c,n,k,p1,p2,p3⟩:=hS.de j _ (ho j _ hj);obtain⟨g1,g2⟩:=hS.dH (ob:=.row rp κ xs) (c':=c) (n':=n) rfl (ho j _ hj) p1 hx (jD p2) (λH' hH=>by
  obtain⟨e1,e0,cs,sp,e2,e3,e4⟩:=p3;exact⟨e1,e0,cs,sp,e2,e3.mono (hH κ),e4⟩)
 have hoi:bQ [(L.nx,some (Ob.row rp κ xs)),(j,none)] oF i=some (.box l):=by
  show(bif Nat.beq i L.nx then _ else bif Nat.beq i j then _ else oF i)=_;rw[hne,hij];exact ho _ _ hi
 have hjn:j≠L.nx:=by rintro rfl;rw[p1]at hx;cases hx
 obtain⟨k1,k2⟩:=g1.review (up:=[(i,some (.box (l.set off (.own L.nx))))]) (λq o hq=>by
  simp only[cG,nW]at hq;obtain⟨rfl,rfl⟩:=hq;refine⟨.box l,_,rfl,hoi,rfl,?_⟩;rintro c' n' k' ⟨vs,q1,q2⟩;obtain⟨y,q3,b',c2,n2,q4,q5⟩:=q2.get hl;rw[AA hjn,p1]at q4;cases q4;have:=q2.set (i:=off) (x:=.own L.nx) (y:=y) ⟨_,_,_,mg,q5⟩;rw[vM q3]at this;exact⟨vs,q1,this⟩)
 refine⟨_,pv,k1,λκ'=>?_,nB⟩;have:HF X w0 H0 (jt ν L.nx (b,c,n)) (bQ [(i,some (Ob.box (l.set off (.own L.nx)))),(L.nx,some (.row rp κ xs)),(j,none)] oF) w=HF X w0 H0 (jt ν L.nx (b,c,n)) (bQ [(L.nx,some (.row rp κ xs)),(j,none)] oF) w:=k2;rw[this];exact g2 κ'
def numG:Nat->List (Option Ob)->List (Nat×Option Ob)
 |_,[]=>[]
 |i,x::r=>(i,x)::numG (i+1) r
def cW(n:Nat)(de:List (Option Ob))(bX:List (Nat×Option Sv)):SS:=⟨n,numG 0 de,bX⟩
end
open Go Go.RowKit Go.X
variable [fq]
theorem KD{α:Type}{L:SS}{w:World}{rp:bZ α}{κ:Bool}{xs:List α}{j:Nat}{ν:Nu}{H:Bool->Hp}(hO:∀i ob,aT L.bI i=some ob->∃b c n k,ν i=some (b,c,n)/\dN w b k/\ob.R ν H c n k)(hj:aT L.bI j=some (.aO rp κ xs)):
 ∃b c n k,ν j=some (b,c,n)/\dN w b k/\(rp.sz==0)=false/\((n=xs.length/\∃cs sp,k=.cells ([]++(cs++sp))/\ct rp (H κ) cs xs/\(cs++sp).length=c*rp.sz)\/(n=xs.length+1/\k=.cells [])):=by
 obtain⟨b,c,n,k,q1,q2,q3,q4⟩:=hO j _ hj;exact⟨b,c,n,k,q1,q2,q3,q4⟩
section
variable {P:Program} {tb:List (dU P)} {L:SS} {o:Oper} {K:Ef->Option Sv->Prop} {β:Type} {res:β} {t u el:TypeId} {x y:Operand} {T E:dU P} {kk:IntKind}
theorem ixA{α:Type}{rp:bZ α}{κ:Bool}{xs:List α}{i:Int}{f:α->Option β}{j:Nat}(h:(idx xs i).bind f=some res)(nx:∀a,f a=some res->K .z (some (.pa j rp κ xs a i 0)))
 (ho:o.op=.indexAddr t x y:=by rfl)(hx:bW L x=some (.s (.lf (.ap j rp κ xs))):=by rfl)(hj:aT L.bI j=some (.aO rp κ xs):=by rfl)(hy:lv (bW L y)=some (.int kk i):=by rfl)(hT:cP tb t=some T:=by rfl)(hd:T.d=.slice el:=by rfl)(hE:cP tb el=some E:=by rfl)(hz:E.sz=rp.sz:=by rfl):cA tb o L K:=by
 obtain⟨a,q1,q2⟩:=bind_some h;obtain⟨n,q3,q4⟩:=tV q1;refine cA.of (LT.look λν H e w hv ht hO hS=>?_) (nx a q2);rw[ho];obtain⟨b,c,m,k,g1,g2,g3,g4⟩:=KD hO hj;obtain⟨b',c',n',m1,m2⟩:(Lf.ap j rp κ xs).R ν H (ev e x):=du hS hx;rw[g1]at m1;cases m1;rcases m2 with⟨m2,m3,m4⟩|⟨m2,m3,m4⟩
 . rcases g4 with⟨g4,cs,sp,rfl,g5,g6⟩|⟨g4,_⟩
   . obtain⟨b,rfl⟩:=BN g2 g5 g3 q4;exact aG.DE (r:=rp) (q:=n*rp.sz+0) (gD hT hd) (iT hE hz) m4 m2 (eY hS hy).1 q3 (ep.1 q4).1 (by omega) ⟨rfl,some b,_,_,n,g1,q3,q4,.inl ⟨m2,b,rfl,rfl⟩⟩
   . omega
 . obtain⟨b2,o',cap,vs,r1,r2,r3,r4⟩:=m3.get q4;exact aG.K6 (gD hT hd) (iT hE hz) rfl r1 (eY hS hy).1 q3 q4 rfl ⟨rfl,b,_,_,n,g1,q3,q4,.inr ⟨m2,b2,o'+n*rp.sz,vs,rfl,r3,r4⟩⟩
theorem ldA{α:Type}{rp:bZ α}[aM rp]{κ:Bool}{xs:List α}{a:α}{i:Int}{j off:Nat}{s:S1}(nx:K .z (some (.s s)))
 (ho:o.op=.load t x:=by rfl)(hx:bW L x=some (.pa j rp κ xs a i off):=by rfl)(hj:aT L.bI j=some (.aO rp κ xs):=by rfl)(hT:cP tb t=some T:=by rfl)(hl:te (iU T.d) T.sz (aM.cl rp κ a) off=some s:=by rfl):cA tb o L K:=by
 refine cA.of (LT.look λν H e w hv ht hO hS=>?_) nx;rw[ho];obtain⟨b,c,m,k,g1,g2,g3,g4⟩:=KD hO hj;obtain⟨b',c',n',m',m1,m2,m3,m4⟩:=du hS hx;rw[g1]at m1;cases m1;rcases m4 with⟨m4,b2,rfl,m5⟩|⟨m4,b2,o2,vs,m5,m6,m7⟩
 . rcases g4 with⟨g4,cs,sp,rfl,g5,g6⟩|⟨g4,_⟩
   . obtain⟨vs,v1,v2,v3⟩:=FZ (pre:=[]) (sp:=sp) g5 m3;simp only[dZ,fb]at v3;rcases uW hl (aM.op v2:dd ν H _ vs)with⟨h1,v,h2,h3⟩|⟨h1,us,h2,h3,h4⟩
     . have hp:=zO (us:=[v]) (q:=off) v3 (by
        rw[jN];obtain⟨hlt,hv⟩:=ep.1 h2;rw[fJ hlt,hv];rfl)
       exact aG.M2 (gL hT) h1 m5 g2 hp ⟨rfl,h3⟩
     . exact aG.GZ (gL hT) h1 (gu hT) m5 g2 h2 (zO v3 h3) ⟨rfl,h4⟩
   . omega
 . rcases uW hl (aM.op m7:dd ν H _ vs)with⟨h1,v,h2,h3⟩|⟨h1,us,h2,h3,h4⟩
   . refine aG.M3 (H:=H κ) (v:=v) (gL hT) h1 m5 (hv κ) ?_ ⟨rfl,h3⟩;refine m6.part off ?_;have hlt:=(ep.1 h2).1;rw[fJ hlt];have:=(ep.1 h2).2;simp[this]
   . exact aG.KG (H:=H κ) (gL hT) h1 (gu hT) m5 h2 (hv κ) (m6.part off h3) ⟨rfl,h4⟩
theorem apA{α:Type}(κn:Bool){rp:bZ α}{κ κs:Bool}{xs ys:List α}{bs:Nat}{f:List α->Option β}{a c:Operand}{j:Nat}{l:Lf}(h:(cZ bs xs ys).bind f=some res)
 (nx:∀Y,f Y=some res->K ⟨1,[(L.nx,some (.row rp κn Y)),(j,none)],[]⟩ (some (.s (.lf (.own L.nx)))))
 (ho:o.op=.call {callee:=.builtin .append,args:=#[a,c],argTypes:=#[t,t]}:=by rfl) (ha:bW L a=some (.s (.lf (.ap j rp κ xs))):=by rfl) (hj:aT L.bI j=some (.aO rp κ xs):=by rfl) (hc:bW L c=some (.s (.lf l)):=by rfl)
 (hs:vH L rp κs ys l:=by first|exact .ro|exact .own rfl) (hp:Nat.blt 0 ys.length=true:=by rfl) (hT:cP tb t=some T:=by rfl) (hd:T.d=.slice el:=by rfl) (hE:cP tb el=some E:=by rfl) (hz:E.sz=rp.sz:=by rfl) (hb:E.qV=bs:=by rfl) (hq:Nat.beq E.z.cells.size rp.sz=true:=by rfl)
 (hk:cx κ κn=true:=by rfl) (hks:cx κs κn=true\/v7 rp:=by first|exact .inl rfl|exact .inr λ_ _ _ _ h=>h):cA tb o L K:=by
 obtain⟨Y,q1,q2⟩:=bind_some h;obtain⟨q3,q4,q5⟩:=BL q1;refine cA.of (LT.rp hj λν H e w b cp n k0 hv ht hO hS p1 p2 p3=>?_) (nx Y q2);rw[ho];obtain⟨g7,p3⟩:=p3;obtain⟨b',c',n',m1,m2⟩:(Lf.ap j rp κ xs).R ν H (ev e a):=du hS ha;rw[p1]at m1;cases m1;obtain⟨ds,d1,d2⟩:=Fg (κn:=κn) hv ht hO hs hks (du hS hc);subst hb;rcases p3 with⟨e1,cs,sp,rfl,g5,g6⟩|⟨e1,rfl⟩
 . rcases m2 with⟨m2,m3,m4⟩|⟨m2,_,_⟩
   . refine aG.I7 (H:=H κn) (gD hT hd) (iT hE hz) (dV hq) g7 m4 rfl (jD p2) (i:=0) rfl rfl (g5.mono (wE ht hk)) e1 g6 d1 d2 q3 q4 q5 ?_;intro ob' cap' sp' ds' w' hE' hcap hL' hst;exact⟨ob',cap',Y.length,_,hL',λν' H' hν hH=>⟨rfl,g7,ds',sp',rfl,hE'.mono (hH κn),hcap⟩,λν' H' hν hH hn=>⟨ob',cap',Y.length,hn,rfl⟩⟩
   . omega
 . rcases m2 with⟨m2,_,_⟩|⟨m2,m3,m4⟩
   . omega
   . have hR:=Rs.mono m3 (wE ht hk);have e1:=MK (hv κn);rw[e1]at hR d2;have hdrop:Go.X.Loc [b] [] w w [] []:=by
      have:=(jD p2).drop 0;exact this.1
     refine aG.Nq (gD hT hd) (iT hE hz) (dV hq) g7 rfl rfl hR m4 d1 d2 (by simpa using hp) q3 q4 q5 hdrop λb2 cap sp cs w' h1 h2 h3 h4=>?_;rw[<-e1]at h1;exact⟨some b2,cap,Y.length,_,h3,λν' H' hν hH=>⟨rfl,g7,cs,sp,rfl,h1.mono (hH κn),h2⟩,λν' H' hν hH hn=>⟨some b2,cap,Y.length,hn,rfl⟩⟩
theorem fa{α:Type}(i off:Nat){l:List Lf}{j:Nat}{rp:bZ α}{κ:Bool}{xs:List α}(hi:aT L.bI i=some (.box l):=by rfl)(hl:l[off]?=some (.ap j rp κ xs):=by rfl)(hj:aT L.bI j=some (.aO rp κ xs):=by rfl):
 Vw L ⟨0,[(i,some (.box (l.set off (.ro rp κ xs)))),(j,none)],[]⟩:=by
 refine⟨λX w0 H0 ν oF e w ho hn hS hs=>?_⟩;obtain⟨b,c,n,kk,q1,q2,e0,q3⟩:=hS.de j _ (ho j _ hj);obtain⟨g1,g2⟩:=hS.go (T:=[j]) (O:=[b]) (new:=[]) (oF':=bQ [(j,none)] oF) (ν':=ν) (λb' hb=>by simp only[cG]at hb;exact⟨j,by simp,_,ho j _ hj,by rw[eT q1,hb]⟩) ((jD q2).drop 0).1 (fk.refl ν) rfl (by simp)
  (λi o h=>by
   rcases j4 h with h|⟨h,h2⟩
   . simp at h
   . refine .inl ⟨h,λhm=>?_⟩;simp only[cG]at hm;subst hm;simp[cC]at h2)
  (λ_ x hx=>by cases hx) (λx hx=>by cases hx) ⟨rfl,rfl⟩
 have hij:i≠j:=by rintro rfl;rw[hi]at hj;cases hj
 have hbe:Nat.beq i j=false:=by
  cases hb:Nat.beq i j with
  |false=>rfl
  |true=>exact bV (dV hb) hij
 obtain⟨k1,k2⟩:=g1.review (up:=[(i,some (.box (l.set off (.ro rp κ xs))))]) (λi' o hj'=>by
  simp only[cG,nW]at hj';obtain⟨rfl,rfl⟩:=hj';refine⟨.box l,_,rfl,?_,rfl,?_⟩
  . show(bif Nat.beq i' j then none else oF i')=_;rw[hbe];exact ho _ _ hi
  . rintro c' n' k' ⟨vs,r1,r2⟩;obtain⟨y,r3,r4⟩:=r2.get hl;have hy:(Lf.ro rp κ xs).R ν (HF X w0 H0 ν (bQ [(j,none)] oF) w) y:=by
     obtain⟨b',c2,n2,s1,s2⟩:=r4;rw[q1]at s1;cases s1;rcases s2 with⟨s2,s3,s4⟩|⟨s2,s3,s4⟩
     . rcases q3 with⟨q3,cs,sp,rfl,e3,e4⟩|⟨q3,_⟩
       . rw[s4];cases b with
         |none=>exact rD q2 e3 e0
         |some b=>
          have hno:¬Ow ν (bQ [(j,none)] oF) b:=by
           rintro⟨i',ob,r2,r3⟩;rcases j4 r2 with h|⟨h,h2⟩
           . simp at h
           . have:=hS.gR i' j ob _ b h (ho j _ hj) r3 (.inl (eT q1));subst this;simp[cC]at h2
          exact xJ (pO q2 λq hq=>lL (hS.fresh j _ b (ho j _ hj) (.inl (eT q1))) hno (uQ q2 hq)) (e3.mono (g2 κ)) e0 rfl q3 e4
       . omega
     . exact s3
    have:=r2.set (i:=off) (x:=.ro rp κ xs) (y:=y) hy;rw[vM r3]at this;exact⟨vs,r1,this⟩)
 rw[<-pf]at k1 k2;refine⟨ν,ja.refl,k1,λκ=>?_,nB⟩;have k3:HF X w0 H0 ν (bQ [(i,some (Ob.box (l.set off (.ro rp _ xs)))),(j,none)] oF) w=HF X w0 H0 ν (bQ [(j,none)] oF) w:=k2;rw[k3];exact g2 κ
theorem ca{α:Type}(i off:Nat){l:List Lf}{rp:bZ α}{κ:Bool}{xs:List α}(hi:aT L.bI i=some (.box l):=by rfl)(hl:l[off]?=some (.cp rp κ xs):=by rfl)(hne:Nat.beq i L.nx=false:=by rfl)(hz:(rp.sz==0)=false:=by rfl):
 Vw L ⟨1,[(i,some (.box (l.set off (.ap L.nx rp κ xs)))),(L.nx,some (.aO rp κ xs))],[]⟩:=by
 refine⟨λX w0 H0 ν oF e w ho hn hS hs=>?_⟩;have hx:=hn L.nx (bO _) (by show L.nx<L.nx+1;omega);obtain⟨g1,g2⟩:=hS.new (ob:=.aO rp κ xs) (c:=0) (n:=xs.length+1) rfl hx Cz (λH' _=>⟨hz,.inr ⟨rfl,rfl⟩⟩);have hoi:bQ [(L.nx,some (Ob.aO rp κ xs))] oF i=some (.box l):=by
  show(bif Nat.beq i L.nx then _ else oF i)=_;rw[hne];exact ho _ _ hi
 obtain⟨k1,k2⟩:=g1.review (up:=[(i,some (.box (l.set off (.ap L.nx rp κ xs))))]) (λj o hj=>by
  simp only[cG,nW]at hj;obtain⟨rfl,rfl⟩:=hj;refine⟨.box l,_,rfl,hoi,rfl,?_⟩;rintro c n k ⟨vs,q1,q2⟩;obtain⟨y,q3,q4⟩:=q2.get hl;have:=q2.set (i:=off) (x:=.ap L.nx rp κ xs) (y:=y) ⟨none,0,_,mg,.inr ⟨rfl,q4.1,q4.2⟩⟩;rw[vM q3]at this;exact⟨vs,q1,this⟩)
 rw[<-pf]at k1 k2;refine⟨_,pv,k1,λκ=>?_,nB⟩;have k3:HF X w0 H0 (jt ν L.nx (none,0,xs.length+1)) (bQ [(i,some (Ob.box (l.set off (.ap L.nx rp _ xs)))),(L.nx,some (.aO rp _ xs))] oF) w=HF X w0 H0 (jt ν L.nx (none,0,xs.length+1)) (bQ [(L.nx,some (.aO rp _ xs))] oF) w:=k2;rw[k3];exact g2 κ
theorem oa{α:Type}(i off:Nat){l:List Lf}{j:Nat}{rp:bZ α}{κ:Bool}{xs:List α}(hi:aT L.bI i=some (.box l):=by rfl)(hl:l[off]?=some (.own j):=by rfl)(hj:aT L.bI j=some (.row rp κ xs):=by rfl):
 Vw L ⟨0,[(i,some (.box (l.set off (.ap j rp κ xs)))),(j,some (.aO rp κ xs))],[]⟩:=by
 refine⟨λX w0 H0 ν oF e w ho hn hS hs=>?_⟩;obtain⟨b,c,n,kk,q1,q2,e1,e0,cs,sp,e2,e3,e4⟩:=hS.de j _ (ho j _ hj);have hnil:b=none->xs=[]:=λhb=>by
  subst hb;subst e2;have hq:Rs rp (HF X w0 H0 ν oF w κ) (fE none 0 0 0) xs:=rD q2 e3 e0;rcases hq with⟨_,h⟩|⟨_,_,_,hv,_⟩
  . exact h
  . cases hv
 obtain⟨g1,g2⟩:=hS.review (up:=[(j,some (.aO rp κ xs))]) (λi' o hj'=>by
  simp only[cG,nW]at hj';obtain⟨rfl,rfl⟩:=hj';refine⟨.row rp κ xs,_,rfl,ho _ _ hj,rfl,?_⟩;rintro c' n' k' ⟨r1,r0,cs,sp,r2,r3,r4⟩;exact⟨r0,.inl ⟨r1,cs,sp,r2,r3,r4⟩⟩)
 have hij:i≠j:=by rintro rfl;rw[hi]at hj;cases hj
 have hbe:Nat.beq i j=false:=by
  cases hb:Nat.beq i j with
  |false=>rfl
  |true=>exact bV (dV hb) hij
 obtain⟨k1,k2⟩:=g1.review (up:=[(i,some (.box (l.set off (.ap j rp κ xs))))]) (λi' o hj'=>by
  simp only[cG,nW]at hj';obtain⟨rfl,rfl⟩:=hj';refine⟨.box l,_,rfl,?_,rfl,?_⟩
  . show(bif Nat.beq i' j then _ else oF i')=_;rw[hbe];exact ho _ _ hi
  . rintro c' n' k' ⟨vs,r1,r2⟩;obtain⟨y,r3,b',c2,n2,s1,s2⟩:=r2.get hl;rw[q1]at s1;cases s1;have:=r2.set (i:=off) (x:=.ap j rp κ xs) (y:=y) ⟨b,c,n,q1,.inl ⟨e1,hnil,s2⟩⟩;rw[vM r3]at this;exact⟨vs,r1,this⟩)
 rw[<-pf]at k1 k2;refine⟨ν,ja.refl,k1,λκ'=>?_,nB⟩;have k3:HF X w0 H0 ν (bQ [(i,some (Ob.box (l.set off (.ap j rp κ xs)))),(j,some (.aO rp κ xs))] oF) w=HF X w0 H0 ν (bQ [(j,some (.aO rp κ xs))] oF) w:=k2;rw[k3,g2];exact Le.refl _
theorem fv{P:Program}{α ρ:Type}(t:Nat)(az:α->List S1)(rs:ρ->List S1)(f:α->Option ρ){fid:FuncId}(c:∀x r,f x=some r->Cx P fid (az x) [] [] (rs r))(he:Enters P fid)(ht:aT L.bX t=some (.s (.lf (.v (.func (.func fid) #[] #[])))):=by rfl):Vw L ⟨0,[],[(t,some (.s (.lf (.pd (iR P az rs f)))))]⟩:=by
 refine⟨λX w0 H0 ν oF e w ho hn hS hs=>⟨ν,ja.refl,hS,λ_=>Le.refl _,λt' sv h=>?_⟩⟩;have h:(bif Nat.beq t' t then some (Sv.s (.lf (.pd (iR P az rs f))))else none)=some sv:=h;cases hb:Nat.beq t' t with
 |false=>rw[hb]at h;cases h
 |true=>
  rw[hb]at h;cases h;have e1:=dV hb;subst e1;have h1:(Lf.v (.func (.func fid) #[] #[])).R ν (HF X w0 H0 ν oF w) (e t'):=hs _ _ ht;have h2:=(pS.f (P:=P) az rs f c he .n).ok (ν:=ν) (H:=HF X w0 H0 ν oF w) (v:=[e t']) ⟨_,[],rfl,h1,rfl⟩;obtain⟨a,r,h3,h4,h5⟩:=h2;cases h3;exact h4
theorem eP{α:Type}(i off j:Nat){l:List Lf}{rp:bZ α}{κ:Bool}{xs:List α}(hi:aT L.bI i=some (.box l):=by rfl)(hj:aT L.bI j=some (.aO rp κ xs):=by rfl)(hl:l[off]?=some (.ap j rp κ xs):=by rfl)(hne:Nat.beq i L.nx=false:=by rfl)(hij:Nat.beq i j=false:=by rfl):
 Vw L ⟨1,[(i,some (.box (l.set off (.ap L.nx rp κ xs)))),(L.nx,some (.aO rp κ xs)),(j,none)],[]⟩:=by
 refine⟨λX w0 H0 ν oF e w ho hn hS hs=>?_⟩;have hx:=hn L.nx (bO _) (by show L.nx<L.nx+1;omega);obtain⟨b,c,n,k,p1,p2,p3⟩:=hS.de j _ (ho j _ hj);obtain⟨g1,g2⟩:=hS.dH (ob:=.aO rp κ xs) (c':=c) (n':=n) rfl (ho j _ hj) p1 hx (jD p2) (λH' hH=>⟨p3.1,p3.2.imp (λ⟨e1,cs,sp,e2,e3,e4⟩=>⟨e1,cs,sp,e2,e3.mono (hH κ),e4⟩) id⟩);have hoi:bQ [(L.nx,some (Ob.aO rp κ xs)),(j,none)] oF i=some (.box l):=by
  show(bif Nat.beq i L.nx then _ else bif Nat.beq i j then _ else oF i)=_;rw[hne,hij];exact ho _ _ hi
 have hjn:j≠L.nx:=by rintro rfl;rw[p1]at hx;cases hx
 obtain⟨k1,k2⟩:=g1.review (up:=[(i,some (.box (l.set off (.ap L.nx rp κ xs))))]) (λq o hq=>by
  simp only[cG,nW]at hq;obtain⟨rfl,rfl⟩:=hq;refine⟨.box l,_,rfl,hoi,rfl,?_⟩;rintro c' n' k' ⟨vs,q1,q2⟩;obtain⟨y,q3,b',c2,n2,q4,q5⟩:=q2.get hl;rw[AA hjn,p1]at q4;cases q4;have:=q2.set (i:=off) (x:=.ap L.nx rp κ xs) (y:=y) ⟨_,_,_,mg,q5⟩;rw[vM q3]at this;exact⟨vs,q1,this⟩)
 refine⟨_,pv,k1,λκ'=>?_,nB⟩;have:HF X w0 H0 (jt ν L.nx (b,c,n)) (bQ [(i,some (Ob.box (l.set off (.ap L.nx rp κ xs)))),(L.nx,some (.aO rp κ xs)),(j,none)] oF) w=HF X w0 H0 (jt ν L.nx (b,c,n)) (bQ [(L.nx,some (.aO rp κ xs)),(j,none)] oF) w:=k2;rw[this];exact g2 κ'
end
theorem PL{is:List Nat}{U:List (Nat×Option Ob)}{g oF:OF}(hk:U.map (·.1)=is)(hg:is.map (aT U)=is.map g)(hs:is.all (λi=>(g i).isSome)=true)(ho:∀i ob,g i=some ob->oF i=some ob):bQ (U++iz is) oF=oF:=by
 funext i;rw[pf];cases hm:cC i is with
 |false=>
  rw[ku (by rw[hk];exact hm),ku (by rw[CN];exact hm)]
 |true=>
  have h1:bQ U (bQ (iz is) oF) i=bQ U (λ_=>none) i:=rq (by rw[hk];exact hm);have h2:aT (U++[]) i=bQ U (aT []) i:=qK _ _ _;rw[mT]at h2;rw[h1];have h3:bQ U (λ_=>none) i=aT U i:=h2.symm;rw[h3];have hmem:i∈is:=ju.1 hm;have h4:aT U i=g i:=by
   have:∀(l:List Nat),l.map (aT U)=l.map g->i∈l->aT U i=g i:=by
    intro l
    induction l with
    |nil=>intro _ h;cases h
    |cons a r ih=>
     intro h hi;simp only[kz,NP]at h;rcases ej.1 hi with e|e
     . subst e;exact h.1
     . exact ih h.2 e
   exact this is hg hmem
  rw[h4];have h5:=tY.1 hs i hmem;cases hgi:g i with
  |none=>rw[hgi]at h5;cases h5
  |some ob=>exact(ho i ob hgi).symm
section
variable {P:Program} {tb:List (dU P)} {L:SS} {o:Oper} {K:Ef->Option Sv->Prop} {β:Type} {res:β}
theorem fp(md:Option Bool)(is:List Nat){ρ:Type}{g:Option ρ}{f:ρ->Option β}{fid:FuncId}{args:List Operand}{ats:Array TypeId}{ls az:List S1}{ib:List Ob}{out:ρ->List (Nat×Option Ob)}{rs:ρ->List S1}
 (h:g.bind f=some res)(c:∀r,g=some r->Cx P fid az ib (out r) (rs r))(nx:∀r,f r=some res->K .z (some (pA ((rs r).map (lj md is L.nx)))))
 (ho:o.op=.call {callee:=.value (.func fid),args:=args.toArray,argTypes:=ats}:=by rfl)(ha:oQ L args=some ls:=by rfl)(hl:kH md (aT L.bI) is ls az=some az:=by rfl)(hb:jw md (aT L.bI) is is ib=some ib:=by rfl)(hn:gn is=true:=by rfl)
 (h1:∀r,oC md (is.length+0) (out r)=true:=by intro r;rfl)(h2:∀r,(rs r).all (pK md (is.length+0))=true:=by intro r;rfl)(h3:∀r,gn ((out r).map (·.1))=true:=by intro r;rfl)
 (k1:∀r,(fw md is L.nx (out r)).map (·.1)=is:=by intro r;rfl)(k2:∀r,is.map (aT (fw md is L.nx (out r)))=is.map (aT L.bI):=by intro r;rfl)(k3:is.all (λi=>(aT L.bI i).isSome)=true:=by rfl):cA tb o L K:=by
 obtain⟨r,q1,q2⟩:=bind_some h;refine cA.of ⟨λX w0 H0 ν oF e w hO hn' hS hs=>?_⟩ (nx r q2);rw[ho];have hlt:=(Ib md is 0 (ats:=ats) (ty:=o.type) (c r q1) ha hl hb hn (h1 r) (h2 r) (h3 r)).ok X w0 H0 ν oF e w hO (λk hk hk'=>bV hk' (by show¬k<L.nx+0;omega)) hS hs;have e1:bQ (fw md is L.nx (out r)++iz is) oF=oF:=PL (k1 r) (k2 r) k3 hO;refine hlt.mono ?_;rintro v w' ⟨ν',g1,g2,g3,g4,g5⟩;rw[e1]at g2 g3 g4 g5;exact⟨ν',g1,g2,g3,g4,g5⟩
end
end Go.Q
