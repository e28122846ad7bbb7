/- (bytes.Clone stands in a text of its own.) -/
import Derived.Test.YtcecgbjpmegljaaFlC
import Derived.Test.YtcecgbjpmegljaaClone
