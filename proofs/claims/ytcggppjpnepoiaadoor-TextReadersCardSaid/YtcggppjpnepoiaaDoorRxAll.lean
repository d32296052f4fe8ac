/- The whole rule layer. -/
import Derived.Test.YtcggppjpnepoiaaDoorRxMake
